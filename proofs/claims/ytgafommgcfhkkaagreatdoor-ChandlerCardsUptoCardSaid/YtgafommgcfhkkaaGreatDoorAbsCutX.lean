/- CONTRACTS of functions and laws. No conditions but those in the heads. -/
import Derived.Test.YtgafommgcfhkkaaGreatDoorAbsEvX
import Derived.Test.YtgafommgcfhkkaaGreatDoorTie
import Derived.LaidLaws
import Derived.LaidSub
import Derived.LaidMore
import Derived.Lay
import Derived.MakeChecks
import Derived.Lib.UnsafeStr
set_option linter.all false
set_option maxHeartbeats 1000000
open Go.Proofs.Tryz renaming prog->TP
open Go.Proofs.Tryz
open Go.IntKind (i64)
namespace Go.Proofs.YtgafommgcfhkkaaGreatDoor
namespace Abs
variable {P:Program} {M0:Nat->Prop}
def KG{f}{args}{h}{R}(k:(∀o,o∈h->bB h.length o)->aw P f args h R):aw P f args h R:=by
 intro M0 m w j l e;refine k (λo q=>?_) M0 m w j l e;obtain⟨i,hi⟩:=fN q;exact Fz (S:=⟨m,h,w⟩) l hi
def DV:AEnd->Prop
 |.ret (.p _)=>True
 |.panic _=>True
 |_=>False
def CX(hD:eV P){H}{f}{fn}{c}{args}{h}{R}{rs}{n}(Z:P.funcs[f]?=some fn)(j:fn.body=some c)(O:fn.results.toList=rs)(V:fn.ntmps=n)(hok:cu H fn=true)
  (I:args.length<=n) (hw:wp P H c (j7 P rs h.length (λ_ r u=>∃h' t,u=h'++t/\h'.length=h.length/\(∀o,o∈h'->bB h'.length o)/\DV r/\R r h')) (start n .no args h)):aw P f args h R:=by
 intro M0 m w E hS D;have:=kW hD (R:=λr u=>∃h' t,u=h'++t/\h'.length=h.length/\(∀o,o∈h'->bB h'.length o)/\DV r/\R r h') Z j O V hok I hw M0 m w E hS D;refine⟨this.1,this.2.mono λe w' hh=>?_⟩;obtain⟨r,u,m',⟨h',t,rfl,X,J,U,hR⟩,A,Y,i⟩:=hh;have C:∀(id:Nat) (o:AObj),id<h'.length->(h'++t)[id]?=some o->bB h'.length o:=λid o q L=>by
  grind
 have z:=Ed (S:=⟨m',h'++t,w'⟩) Y (l:=h'.length) C;have K:Mem.cut ⟨m',h'++t,w'⟩ h'.length=⟨m'.take h'.length,h',w'⟩:=by simp[Mem.cut]
 rw[K]at z;have F:∀b,Avoid M0 (m'.take h'.length) b->Avoid M0 m' b:=λb j=>by
  rcases j with j|j
  .exact .inl j
  .exact .inr (rb j)
 refine⟨r,h',m'.take h'.length,hR,⟨A.fr,λb j=>A.sub b (rb j),λid o q L=>?_⟩,z,?_⟩
 .have y:id<h'.length:=by rw[X];exact q
  obtain⟨T,N,M⟩:=A.obj id o q L;grind
 .cases e with
  |returned v'=>
   cases r with
   |panic v=>exact i.elim
   |ret a=>
    cases a<;>first|exact U.elim|skip
    rename_i v
    exact RepP.less (show RepP (Avoid M0 m') w' v' v from i) F
  |panicked ch=>
   cases r with
   |ret a=>exact i.elim
   |panic v=>
    obtain⟨v',N,M⟩:=i
    exact⟨v',N,RepP.less (show RepP (Avoid M0 m') w' v' v from M) F⟩
  |outgrown=>exact i.elim
def dA{n m}(h:n<=m):∀{a},fb n a->fb m a:=by
 intro a;cases a<;>simp only[fb]<;>first|exact id|omega
def F'{n m}(h:n<=m){a}(k:gn n a):gn m a:=by
 cases a with
 |func fn first cap=>exact⟨λc j=>dA h (k.1 c j),λc j=>dA h (k.2 c j)⟩
 |p v=>exact trivial
 |ptr id e i o=>exact dA (a:=.ptr id e i o) h k
 |slice id e i o=>exact dA (a:=.slice id e i o) h k
 |agg cs=>exact dA (a:=.agg cs) h k
 |tuple cs=>exact dA (a:=.tuple cs) h k
 |ref q id=>exact dA (a:=.ref q id) h k
 |undef=>exact dA (a:=.undef) h k
def Rg{n m}(h:n<=m){a}(k:iD n a):iD m a:=by
 cases a with
 |agg cs=>exact λc j=>F' h (k c j)
 |func fn first cap=>exact⟨λc j=>dA h (k.1 c j),λc j=>dA h (k.2 c j)⟩
 |p v=>exact trivial
 |ptr id e i o=>exact dA (a:=.ptr id e i o) h k
 |slice id e i o=>exact dA (a:=.slice id e i o) h k
 |tuple cs=>exact dA (a:=.tuple cs) h k
 |ref q id=>exact dA (a:=.ref q id) h k
 |undef=>exact dA (a:=.undef) h k
def Jz{n m}(h:n<=m){a}(k:below n a):below m a:=by
 cases a with
 |tuple cs=>exact λc e=>Rg h (k c e)
 |agg cs=>exact λc e=>F' h (k c e)
 |func fn first cap=>exact⟨λc e=>dA h (k.1 c e),λc e=>dA h (k.2 c e)⟩
 |p v=>exact trivial
 |ptr id j i o=>exact dA (a:=.ptr id j i o) h k
 |slice id j i o=>exact dA (a:=.slice id j i o) h k
 |ref q id=>exact dA (a:=.ref q id) h k
 |undef=>exact dA (a:=.undef) h k
def Ku{n m}(h:n<=m){o}(k:bB n o):bB m o:=by
 cases o with
 |row sz xs=>exact λx hx=>Jz h (k x hx)
 |loop n tmps ps assign body i pend=>exact λt=>Jz h (k t)
 |bld T e x=>exact dA h k
 |_=>exact trivial
variable {fn:Func} {nm og:String} {ta ps rt:Array TypeId} {nf n el:Nat} {rs:List ResultVar} {c:Code} {nr ou:Bool} {fl:String} {ln:Option Nat} {mt:List Departure} {tn:Array String} {H:Hints} {f:FuncId} {pargs:List PV} {args:List AV} {h:Heap}
abbrev ua (H:Hints) (f:FuncId) (fn:Func) (n:Nat) (rs:List ResultVar) (c:Code):Prop:=TP.funcs[f]?=some fn/\fn.body=some c/\fn.results.toList=rs/\fn.ntmps=n/\cu H fn=true
def dv(e:TP.funcs[f]?=some fn)(i:fn=⟨nm,og,ta,ps,rt,nf,n,⟨rs⟩,some c,nr,ou,fl,el,ln,mt,tn⟩)(hok:cu H fn=true):ua H f fn n rs c:=by
 grind
def ag(e:TP.funcs[f]?=some fn)(i:fn=⟨nm,og,ta,ps,rt,nf,n,⟨rs⟩,some c,nr,ou,fl,el,ln,mt,tn⟩)(hok:cu H0 fn=true:=by kernel_rfl):ua H0 f fn n rs c:=dv e i hok
def ae{v:PV}(k:ua H f fn n rs c)(i:Nat.ble pargs.length n=true)(hw:wp TP H c (j7 TP rs 0 (λ_ r _=>r=.ret (.p v))) (start n .no (pargs.map .p) [])):af TP f pargs v:=
 let ⟨a,b,d,e,g⟩:=k;Kp cH a b d e g (pH i) hw
def bX{v:PV}(k:ua H f fn n rs c)(i:Nat.ble pargs.length n=true)(hw:wp TP H c (j7 TP rs 0 (λ_ r h=>sg h r=some v)) (start n .no (pargs.map .p) [])):af TP f pargs v:=
 let ⟨a,b,d,e,g⟩:=k;Cr cH a b d e g (pH i) hw
def bF{v:PV}(k:ua H f fn n rs c)(i:Nat.ble pargs.length n=true)(hw:wp TP H c (j7 TP rs 0 (λ_ r h=>∃q,sg h r=some q/\t7 q v)) (start n .no (pargs.map .p) [])):af TP f pargs v:=
 let ⟨a,b,d,e,g⟩:=k;Bh cH a b d e g (pH i) hw
def e9{v:PV}(k:ua H f fn n rs c)(i:Nat.ble pargs.length n=true)(hw:wp TP H c (j7 TP rs 0 (λ_ r h=>G1 h r=some v)) (start n .no (pargs.map .p) [])):il TP f pargs v:=
 let ⟨a,b,d,e,g⟩:=k;HV cH a b d e g (pH i) hw
def au{R:AEnd->Heap->Prop}(k:ua H f fn n rs c)(i:Nat.ble args.length n=true)(hw:wp TP H c (j7 TP rs h.length (λ_=>R)) (start n .no args h)):aw TP f args h R:=
 let ⟨a,b,d,e,g⟩:=k;kW cH a b d e g (pH i) hw
def tK{R:AEnd->Heap->Prop}(k:ua H f fn n rs c)(i:Nat.ble args.length n=true)(hw:SW TP H c (j7 TP rs h.length (λ_=>R)) (start n .no args h)):aw TP f args h R:=
 let ⟨a,b,d,e,g⟩:=k;uZ cH a b d e g (pH i) hw
def ii{u:AMode}{R:AEnd->AMode->Heap->Prop}(k:ua H f fn n rs c)(i:Nat.ble args.length n=true)(hw:wp TP H c (j7 TP rs h.length (λrc r h'=>R r (j0 u rc) h')) (start n (pS u) args h)):lk TP f args u h R:=
 let ⟨a,b,d,e,g⟩:=k;KL cH a b d e g (pH i) hw
def rN{v:PV}(k:ua H f fn n rs c)(i:Nat.ble args.length n=true)(hw:wp TP H c (j7 TP rs h.length (λ_ r h'=>∃t,h'=h++t/\sg (List.replicate h.length .dead++t) r=some v)) (start n .no args h)):aw TP f args h (λr h'=>r=.ret (.p v)/\h'=h):=
 let ⟨a,b,d,e,g⟩:=k;Aj cH a b d e g (pH i) hw
def ci{R:AEnd->Heap->Prop}(k:ua H f fn n rs c)(j:Nat.ble args.length n=true)(hw:wp TP H c (j7 TP rs h.length (λ_ r i=>∃h' t,i=h'++t/\h'.length=h.length/\(∀o,o∈h'->bB h'.length o)/\DV r/\R r h')) (start n .no args h)):aw TP f args h R:=
 let ⟨a,b,d,e,g⟩:=k;CX cH a b d e g (pH j) hw
open Go.ChangeShapes Go.WideShapes Go.ChangeAt Go.RowKit
set_option maxRecDepth 100000
def T7:ownKnob TP.godebug=none:=by kernel_rfl
def laid:laidOutB TP=true:=by kernel_rfl
def Zg (t:TypeId):Prop:=uu TP 8 t=true/\TP.readableRec t=true/\t<TP.types.size
def T9:Zg 41:=⟨by kernel_rfl,by kernel_rfl,of_decide_eq_true (by kernel_rfl)⟩
def T8:Zg 42:=⟨by kernel_rfl,by kernel_rfl,of_decide_eq_true (by kernel_rfl)⟩
def ax:List (String×DataW Unit):=Rows.chandlerWorksRow.laid
def plain:∀W,laidMetH TP ax W->laidMet TP ax W:=λW h=>by
 rw[MakeChecks.laidMetH_plain _ _ _ (by kernel_rfl)]at h;exact h
def Z8:ax.filter (λx=>x.1 == "internal/strconv.uint64pow10")=[("internal/strconv.uint64pow10", Lib.tabData .u64 Lib.pow10Tab)]:=by rfl
def Z7:ax.filter (λx=>x.1 == "strconv.ErrSyntax")=[("strconv.ErrSyntax", Rows.laid_strconv_ErrSyntax)]:=by rfl
def Z6:ax.filter (λx=>x.1 == "strconv.ErrRange")=[("strconv.ErrRange", Rows.laid_strconv_ErrRange)]:=by rfl
def zbf:∃e,TP.underlying 102=some (.interface e):=⟨_,rfl⟩
def Cg{W:World}{name A:String}{d:DataW Unit}{g:Nat}(D:TP.globalNamed name=some g)(C:(TP.globals[g]?).map (·.type)=some 102)
  (h:laidMet TP [(name,.iface A d)] W):∃z p,W.var? TP name=some #[.iface z p]:=by
 obtain⟨ps,⟨I,F,cs,fuel,p,q,l,i,e,E,_,_⟩,_⟩:=h;obtain rfl:=kw (D.symm.trans l);obtain rfl:=kw (C.symm.trans i);obtain⟨G,j⟩:=zbf;obtain⟨J,u,v,y,_,_⟩:=iface_of_trod j E;refine⟨u,v,?_⟩;rw[e]
 congr 1
 grind
def gok{W:World}(j:laidMetH TP ax W):vU TP W:=by
 have h:=plain W j;refine⟨λb i=>?_,λb i=>?_,λb i=>?_⟩
 .have:=h.filter (λx=>x.1 == "internal/strconv.uint64pow10");rw[Z8]at this;exact Lib.tabIs_of_head (g:=1) (t:=325) (e:=276) (n:=20) (by kernel_rfl) (by kernel_rfl) (by kernel_rfl) (by kernel_rfl) (by kernel_rfl) (by kernel_rfl) this
 .have:=h.filter (λx=>x.1 == "strconv.ErrSyntax");rw[Z7]at this;exact Cg (g:=4) (by kernel_rfl) (by kernel_rfl) this
 .have:=h.filter (λx=>x.1 == "strconv.ErrRange");rw[Z6]at this;exact Cg (g:=5) (by kernel_rfl) (by kernel_rfl) this
structure Span where
 lo:Int
 hi:Int
def ay (n:Int):PV:=.int .i64 n
def Span.pv (s:Span):PV:=.agg [.int .i64 s.lo,.int .i64 s.hi]
attribute [go_sem] ay Span.pv
structure HrKind where
 name:ByteArray
 weight:Span
 rest:Int
structure HrRule where
 name:ByteArray
 minutes:Span
 weight:Span
structure HrMark where
 minute:Int
 weight:Int
 deriving DecidableEq
structure HrTest where
 kind:Int
 error:Int
 marks:List HrMark
structure HrShop where
 kinds:List HrKind
 rules:List HrRule
 margin:Int
structure HrBox where
 kind:Int
 hours:Int
def HrKind.pv (k:HrKind):PV:=.agg [.str k.name,.int .i64 k.weight.lo,.int .i64 k.weight.hi,.int .i64 k.rest]
def HrRule.pv (r:HrRule):PV:=.agg [.str r.name,.int .i64 r.minutes.lo,.int .i64 r.minutes.hi,.int .i64 r.weight.lo,.int .i64 r.weight.hi]
def HrMark.pv (m:HrMark):PV:=.agg [.int .i64 m.minute,.int .i64 m.weight]
def HrTest.pv (t:HrTest):PV:=.agg [.int .i64 t.kind,.int .i64 t.error,.slice 2 (t.marks.map HrMark.pv) false]
def HrShop.pv (s:HrShop):PV:=.agg [.slice 4 (s.kinds.map HrKind.pv) false,.slice 5 (s.rules.map HrRule.pv) false,.int .i64 s.margin]
def HrBox.pv (b:HrBox):PV:=.agg [.int .i64 b.kind,.int .i64 b.hours]
attribute [go_sem] HrKind.pv HrRule.pv HrMark.pv HrTest.pv HrShop.pv HrBox.pv
structure Wick where
 name:ByteArray
 threads:Int
 pull:Span
structure Wax where
 name:ByteArray
 flow:Span
 rise:Span
 spread:Span
 chill:Int
structure Shop where
 wicks:List Wick
 waxes:List Wax
 flame:Span
 pool:Span
structure Candle where
 wax:Int
 diameter:Int
 draught:Int
 cold:Span
structure Truth where
 pull:Int
 flow:Int
 rise:Int
 spread:Int
 draught:Int
 cold:Int
structure Burn where
 rate:Int
 flame:Int
 pool:Int
def Wick.pv (x:Wick):PV:=.agg [.str x.name,.int .i64 x.threads,.int .i64 x.pull.lo,.int .i64 x.pull.hi]
def Wax.pv (x:Wax):PV:=.agg [.str x.name,.int .i64 x.flow.lo,.int .i64 x.flow.hi,.int .i64 x.rise.lo,.int .i64 x.rise.hi,.int .i64 x.spread.lo,.int .i64 x.spread.hi,.int .i64 x.chill]
def Shop.pv (s:Shop):PV:=.agg [.slice 4 (s.wicks.map Wick.pv) false,.slice 8 (s.waxes.map Wax.pv) false,.int .i64 s.flame.lo,.int .i64 s.flame.hi,.int .i64 s.pool.lo,.int .i64 s.pool.hi]
def Candle.pv (c:Candle):PV:=.agg [.int .i64 c.wax,.int .i64 c.diameter,.int .i64 c.draught,.int .i64 c.cold.lo,.int .i64 c.cold.hi]
def Truth.pv (t:Truth):PV:=.agg [.int .i64 t.pull,.int .i64 t.flow,.int .i64 t.rise,.int .i64 t.spread,.int .i64 t.draught,.int .i64 t.cold]
def Burn.pv (b:Burn):PV:=.agg [.int .i64 b.rate,.int .i64 b.flame,.int .i64 b.pool]
attribute [go_sem] Wick.pv Wax.pv Shop.pv Candle.pv Truth.pv Burn.pv
structure BdPoint where
 parts:Int
 add:Int
structure BdWax where
 name:ByteArray
 price:Int
 melt:Span
 shrink:Span
 curve:List BdPoint
structure BdWish where
 parts:List Span
 melt:Span
 shrink:Span
structure BdLot where
 melt:Int
 shrink:Int
def BdPoint.pv (p:BdPoint):PV:=.agg [.int .i64 p.parts,.int .i64 p.add]
def BdWax.pv (x:BdWax):PV:=.agg [.str x.name,.int .i64 x.price,.int .i64 x.melt.lo,.int .i64 x.melt.hi,.int .i64 x.shrink.lo,.int .i64 x.shrink.hi,.slice 2 (x.curve.map BdPoint.pv) false]
def BdWish.pv (w:BdWish):PV:=.agg [.slice 2 (w.parts.map Span.pv) false,.int .i64 w.melt.lo,.int .i64 w.melt.hi,.int .i64 w.shrink.lo,.int .i64 w.shrink.hi]
def BdLot.pv (x:BdLot):PV:=.agg [.int .i64 x.melt,.int .i64 x.shrink]
def dg (l:List BdWax):PV:=.slice 7 (l.map BdWax.pv) false
def zbc (l:List Int):PV:=.slice 1 (l.map ay) false
def Y1 (l:List BdLot):PV:=.slice 2 (l.map BdLot.pv) false
attribute [go_sem] BdPoint.pv BdWax.pv BdWish.pv BdLot.pv dg zbc Y1
structure WxProp where
 name:ByteArray
 error:Int
structure WxKind where
 name:ByteArray
 props:List Span
structure WxTable where
 props:List WxProp
 kinds:List WxKind
 purity:Int
def WxProp.pv (p:WxProp):PV:=.agg [.str p.name,.int .i64 p.error]
def WxKind.pv (k:WxKind):PV:=.agg [.str k.name,.slice 2 (k.props.map Span.pv) false]
def WxTable.pv (t:WxTable):PV:=.agg [.slice 2 (t.props.map WxProp.pv) false,.slice 2 (t.kinds.map WxKind.pv) false,.int .i64 t.purity]
attribute [go_sem] WxProp.pv WxKind.pv WxTable.pv
structure ClColour where
 name:ByteArray
 stay:Span
 shows:List Int
structure ClShop where
 colours:List ClColour
 keep:Span
 rinse:Int
structure ClBatch where
 colour:Int
 grams:Int
def ClColour.pv (c:ClColour):PV:=.agg [.str c.name,.int .i64 c.stay.lo,.int .i64 c.stay.hi,.slice 1 (c.shows.map ay) false]
def ClShop.pv (s:ClShop):PV:=.agg [.slice 4 (s.colours.map ClColour.pv) false,.int .i64 s.keep.lo,.int .i64 s.keep.hi,.int .i64 s.rinse]
def ClBatch.pv (b:ClBatch):PV:=.agg [.int .i64 b.colour,.int .i64 b.grams]
attribute [go_sem] ClColour.pv ClShop.pv ClBatch.pv
structure ChShop where
 wax:WxTable
 blend:List BdWax
 wick:Shop
 hour:HrShop
 colour:ClShop
structure ChLot where
 name:ByteArray
 kind:Int
 grams:Int
 readings:List Int
structure ChBatch where
 name:ByteArray
 colour:Int
 lot:Int
 grams:Int
structure ChBooks where
 lots:List ChLot
 batches:List ChBatch
 tests:List HrTest
 boxes:List HrBox
 poured:Int
 lost:Int
def ChShop.cells (s:ChShop):List PV:=
 [.slice 2 (s.wax.props.map WxProp.pv) false,.slice 2 (s.wax.kinds.map WxKind.pv) false,.int .i64 s.wax.purity,dg s.blend,
  .slice 4 (s.wick.wicks.map Wick.pv) false,.slice 8 (s.wick.waxes.map Wax.pv) false,.int .i64 s.wick.flame.lo,.int .i64 s.wick.flame.hi,.int .i64 s.wick.pool.lo,.int .i64 s.wick.pool.hi,
  .slice 4 (s.hour.kinds.map HrKind.pv) false,.slice 5 (s.hour.rules.map HrRule.pv) false,.int .i64 s.hour.margin,
  .slice 4 (s.colour.colours.map ClColour.pv) false,.int .i64 s.colour.keep.lo,.int .i64 s.colour.keep.hi,.int .i64 s.colour.rinse]
def ChShop.pv (s:ChShop):PV:=.agg s.cells
def ChLot.pv (l:ChLot):PV:=.agg [.str l.name,.int .i64 l.kind,.int .i64 l.grams,.slice 1 (l.readings.map ay) false]
def ChBatch.pv (b:ChBatch):PV:=.agg [.str b.name,.int .i64 b.colour,.int .i64 b.lot,.int .i64 b.grams]
def ChBooks.cells (b:ChBooks):List PV:=[.slice 4 (b.lots.map ChLot.pv) false,.slice 4 (b.batches.map ChBatch.pv) false,.slice 3 (b.tests.map HrTest.pv) false,.slice 2 (b.boxes.map HrBox.pv) false,.int .i64 b.poured,.int .i64 b.lost]
def ChBooks.pv (b:ChBooks):PV:=.agg b.cells
attribute [go_sem] ChShop.cells ChShop.pv ChLot.pv ChBatch.pv ChBooks.cells ChBooks.pv
set_option maxRecDepth 4000
def FG(n)(h):∀l,aE (bi n h) (l.map .p)=some l
 |[]=>rfl
 |x::r=>by rw[bf,aE,FG n h r,bH]
def Lt:∀l,iP (l.map .p)=some l
 |[]=>rfl
 |x::r=>by rw[bf,iP,Lt r]
attribute [go_sem] FG Lt
def la (P:Program) (fv:PV) (xs:List PV) (y:PV):Prop:=∃(g:FuncId) (first cap:List PV),fv=.func (.func g) first cap/\af P g (first++xs++cap) y
def an {α:Type} (p:α->Bool):List α->Nat->Int
 |[],_=>-1
 |x::r,i=>if p x=true then(i:Int) else an p r (i+1)
def fu{α}(p:α->Bool):∀(l) (i),decide (0<=an p l i)=l.any p
 |[],i=>by simp[an]
 |x::r,i=>by
  unfold an;rw[bZ];cases hx:p x
  .simp only[fD,if_false,oo];exact fu p r (i+1)
  .simp
def aO{a b c:Int}(i:0<=c)(h:c<=ai)(e:a+b=c):i64.wrap (a+b)=c:=by rw[e];exact ct i h
def ca{α:Type}{l d_ r:List α}{x}(h:l=d_++x::r):l[d_.length]?=some x/\((d_.length:Int)<(l.length:Int)):=by
 grind
def K0{fv}(l)(p)(b)(sz)(j:sz=1)(y:l.length<1000000000)(z:∀x,x∈l->la TP fv [ay x] (.bool (p x))) :
  af TP 205 [.slice sz (l.map ay) b,fv] (.int .i64 (an p l 0)):=by
 subst j;refine ae (ag func205 rfl) rfl (zm ?_);refine eZ [0,1,7] l y (τ:=Unit) (λd_ rest _=>an p l 0=an p rest d_.length) (λd_ _=>[(8,.p (.int .i64 d_.length))]) () rfl ?_ ?_ ?_
 .simp only[go_sem,simprocAttr]<;>simp
 .intro _ e;refine zm ?_;rw[e];rfl
 .intro d_ x r _ v e hx u q;obtain⟨g,first,cap,rfl,A⟩:=z x (by rw[v];simp);simp only[u,decide_true,hx,ay,go_sem,simprocAttr];refine aa A (by simp[ay]) (zm ?_);refine aT (λi=>?_) (λi=>?_)
  .refine zm ?_;grind[an]
  .refine zm ?_;refine am v () (by grind[an]) ?_;simp[q,go_sem]
def lD{fv}(l:List Int)(p)(b)(sz)(e:sz=1)(i:l.length<1000000000)(j:∀x,x∈l->la TP fv [ay x] (.bool (p x))) :
  af TP 124 [.slice sz (l.map ay) b,fv] (.bool (l.any p)):=by
 refine ae (ag func124 rfl) rfl (zm ?_);refine aa (K0 l p b sz e i j) rfl (zm ?_);rw[fu]
def KZ{fv}(l)(p)(b)(sz)(j:sz=2)(y:l.length<1000000000)(z:∀x,x∈l->la TP fv [Span.pv x] (.bool (p x))) :
  af TP 130 [.slice sz (l.map Span.pv) b,fv] (.int .i64 (an p l 0)):=by
 subst j;refine ae (ag func130 rfl) rfl (zm ?_);refine eZ [0,1,7] l y (τ:=Unit) (λd_ rest _=>an p l 0=an p rest d_.length) (λd_ _=>[(8,.p (.int .i64 d_.length))]) () rfl ?_ ?_ ?_
 .simp only[go_sem,simprocAttr]<;>simp
 .intro _ e;refine zm ?_;rw[e];rfl
 .intro d_ x r _ v e hx u q;obtain⟨g,first,cap,rfl,A⟩:=z x (by rw[v];simp);simp only[u,decide_true,hx,Span.pv,go_sem,simprocAttr];refine aa A (by simp[Span.pv]) (zm ?_);refine aT (λi=>?_) (λi=>?_)
  .refine zm ?_;grind[an]
  .refine zm ?_;refine am v () (by grind[an]) ?_;simp[q,go_sem]
def qS{fv}(l:List Span)(p)(b)(sz)(e:sz=2)(i:l.length<1000000000)(j:∀x,x∈l->la TP fv [Span.pv x] (.bool (p x))) :
  af TP 58 [.slice sz (l.map Span.pv) b,fv] (.bool (l.any p)):=by
 refine ae (ag func58 rfl) rfl (zm ?_);refine aa (KZ l p b sz e i j) rfl (zm ?_);rw[fu]
def KY{fv}(l)(p)(b)(sz)(j:sz=7)(y:l.length<1000000000)(z:∀x,x∈l->la TP fv [BdWax.pv x] (.bool (p x))) :
  af TP 132 [.slice sz (l.map BdWax.pv) b,fv] (.int .i64 (an p l 0)):=by
 subst j;refine ae (ag func132 rfl) rfl (zm ?_);refine eZ [0,1,7] l y (τ:=Unit) (λd_ rest _=>an p l 0=an p rest d_.length) (λd_ _=>[(8,.p (.int .i64 d_.length))]) () rfl ?_ ?_ ?_
 .simp only[go_sem,simprocAttr]<;>simp
 .intro _ e;refine zm ?_;rw[e];rfl
 .intro d_ x r _ v e hx u q;obtain⟨g,first,cap,rfl,A⟩:=z x (by rw[v];simp);simp only[u,decide_true,hx,BdWax.pv,go_sem,simprocAttr];refine aa A (by simp[BdWax.pv]) (zm ?_);refine aT (λi=>?_) (λi=>?_)
  .refine zm ?_;grind[an]
  .refine zm ?_;refine am v () (by grind[an]) ?_;simp[q,go_sem]
def EE{fv}(l:List BdWax)(p)(b)(sz)(e:sz=7)(i:l.length<1000000000)(j:∀x,x∈l->la TP fv [BdWax.pv x] (.bool (p x))) :
  af TP 63 [.slice sz (l.map BdWax.pv) b,fv] (.bool (l.any p)):=by
 refine ae (ag func63 rfl) rfl (zm ?_);refine aa (KY l p b sz e i j) rfl (zm ?_);rw[fu]
def ru{fv}(l)(p)(b)(sz)(j:sz=4)(y:l.length<1000000000)(z:∀x,x∈l->la TP fv [HrKind.pv x] (.bool (p x))) :
  af TP 210 [.slice sz (l.map HrKind.pv) b,fv] (.int .i64 (an p l 0)):=by
 subst j;refine ae (ag func210 rfl) rfl (zm ?_);refine eZ [0,1,7] l y (τ:=Unit) (λd_ rest _=>an p l 0=an p rest d_.length) (λd_ _=>[(8,.p (.int .i64 d_.length))]) () rfl ?_ ?_ ?_
 .simp only[go_sem,simprocAttr]<;>simp
 .intro _ e;refine zm ?_;rw[e];rfl
 .intro d_ x r _ v e hx u q;obtain⟨g,first,cap,rfl,A⟩:=z x (by rw[v];simp);simp only[u,decide_true,hx,HrKind.pv,go_sem,simprocAttr];refine aa A (by simp[HrKind.pv]) (zm ?_);refine aT (λi=>?_) (λi=>?_)
  .refine zm ?_;grind[an]
  .refine zm ?_;refine am v () (by grind[an]) ?_;simp[q,go_sem]
def ED{fv}(l:List HrKind)(p)(b)(sz)(e:sz=4)(i:l.length<1000000000)(j:∀x,x∈l->la TP fv [HrKind.pv x] (.bool (p x))) :
  af TP 140 [.slice sz (l.map HrKind.pv) b,fv] (.bool (l.any p)):=by
 refine ae (ag func140 rfl) rfl (zm ?_);refine aa (ru l p b sz e i j) rfl (zm ?_);rw[fu]
def KX{fv}(l)(p)(b)(sz)(j:sz=5)(y:l.length<1000000000)(z:∀x,x∈l->la TP fv [HrRule.pv x] (.bool (p x))) :
  af TP 211 [.slice sz (l.map HrRule.pv) b,fv] (.int .i64 (an p l 0)):=by
 subst j;refine ae (ag func211 rfl) rfl (zm ?_);refine eZ [0,1,7] l y (τ:=Unit) (λd_ rest _=>an p l 0=an p rest d_.length) (λd_ _=>[(8,.p (.int .i64 d_.length))]) () rfl ?_ ?_ ?_
 .simp only[go_sem,simprocAttr]<;>simp
 .intro _ e;refine zm ?_;rw[e];rfl
 .intro d_ x r _ v e hx u q;obtain⟨g,first,cap,rfl,A⟩:=z x (by rw[v];simp);simp only[u,decide_true,hx,HrRule.pv,go_sem,simprocAttr];refine aa A (by simp[HrRule.pv]) (zm ?_);refine aT (λi=>?_) (λi=>?_)
  .refine zm ?_;grind[an]
  .refine zm ?_;refine am v () (by grind[an]) ?_;simp[q,go_sem]
def EC{fv}(l:List HrRule)(p)(b)(sz)(e:sz=5)(i:l.length<1000000000)(j:∀x,x∈l->la TP fv [HrRule.pv x] (.bool (p x))) :
  af TP 142 [.slice sz (l.map HrRule.pv) b,fv] (.bool (l.any p)):=by
 refine ae (ag func142 rfl) rfl (zm ?_);refine aa (KX l p b sz e i j) rfl (zm ?_);rw[fu]
def KW{fv}(l)(p)(b)(sz)(j:sz=4)(y:l.length<1000000000)(z:∀x,x∈l->la TP fv [Wick.pv x] (.bool (p x))) :
  af TP 208 [.slice sz (l.map Wick.pv) b,fv] (.int .i64 (an p l 0)):=by
 subst j;refine ae (ag func208 rfl) rfl (zm ?_);refine eZ [0,1,7] l y (τ:=Unit) (λd_ rest _=>an p l 0=an p rest d_.length) (λd_ _=>[(8,.p (.int .i64 d_.length))]) () rfl ?_ ?_ ?_
 .simp only[go_sem,simprocAttr]<;>simp
 .intro _ e;refine zm ?_;rw[e];rfl
 .intro d_ x r _ v e hx u q;obtain⟨g,first,cap,rfl,A⟩:=z x (by rw[v];simp);simp only[u,decide_true,hx,Wick.pv,go_sem,simprocAttr];refine aa A (by simp[Wick.pv]) (zm ?_);refine aT (λi=>?_) (λi=>?_)
  .refine zm ?_;grind[an]
  .refine zm ?_;refine am v () (by grind[an]) ?_;simp[q,go_sem]
def EB{fv}(l:List Wick)(p)(b)(sz)(e:sz=4)(i:l.length<1000000000)(j:∀x,x∈l->la TP fv [Wick.pv x] (.bool (p x))) :
  af TP 135 [.slice sz (l.map Wick.pv) b,fv] (.bool (l.any p)):=by
 refine ae (ag func135 rfl) rfl (zm ?_);refine aa (KW l p b sz e i j) rfl (zm ?_);rw[fu]
def va{fv}(l)(p)(b)(sz)(j:sz=8)(y:l.length<1000000000)(z:∀x,x∈l->la TP fv [Wax.pv x] (.bool (p x))) :
  af TP 209 [.slice sz (l.map Wax.pv) b,fv] (.int .i64 (an p l 0)):=by
 subst j;refine ae (ag func209 rfl) rfl (zm ?_);refine eZ [0,1,7] l y (τ:=Unit) (λd_ rest _=>an p l 0=an p rest d_.length) (λd_ _=>[(8,.p (.int .i64 d_.length))]) () rfl ?_ ?_ ?_
 .simp only[go_sem,simprocAttr]<;>simp
 .intro _ e;refine zm ?_;rw[e];rfl
 .intro d_ x r _ v e hx u q;obtain⟨g,first,cap,rfl,A⟩:=z x (by rw[v];simp);simp only[u,decide_true,hx,Wax.pv,go_sem,simprocAttr];refine aa A (by simp[Wax.pv]) (zm ?_);refine aT (λi=>?_) (λi=>?_)
  .refine zm ?_;grind[an]
  .refine zm ?_;refine am v () (by grind[an]) ?_;simp[q,go_sem]
def EA{fv}(l:List Wax)(p)(b)(sz)(e:sz=8)(i:l.length<1000000000)(j:∀x,x∈l->la TP fv [Wax.pv x] (.bool (p x))) :
  af TP 137 [.slice sz (l.map Wax.pv) b,fv] (.bool (l.any p)):=by
 refine ae (ag func137 rfl) rfl (zm ?_);refine aa (va l p b sz e i j) rfl (zm ?_);rw[fu]
def KV{fv}(l)(p)(b)(sz)(j:sz=2)(y:l.length<1000000000)(z:∀x,x∈l->la TP fv [WxProp.pv x] (.bool (p x))) :
  af TP 206 [.slice sz (l.map WxProp.pv) b,fv] (.int .i64 (an p l 0)):=by
 subst j;refine ae (ag func206 rfl) rfl (zm ?_);refine eZ [0,1,7] l y (τ:=Unit) (λd_ rest _=>an p l 0=an p rest d_.length) (λd_ _=>[(8,.p (.int .i64 d_.length))]) () rfl ?_ ?_ ?_
 .simp only[go_sem,simprocAttr]<;>simp
 .intro _ e;refine zm ?_;rw[e];rfl
 .intro d_ x r _ v e hx u q;obtain⟨g,first,cap,rfl,A⟩:=z x (by rw[v];simp);simp only[u,decide_true,hx,WxProp.pv,go_sem,simprocAttr];refine aa A (by simp[WxProp.pv]) (zm ?_);refine aT (λi=>?_) (λi=>?_)
  .refine zm ?_;grind[an]
  .refine zm ?_;refine am v () (by grind[an]) ?_;simp[q,go_sem]
def Ez{fv}(l:List WxProp)(p)(b)(sz)(e:sz=2)(i:l.length<1000000000)(j:∀x,x∈l->la TP fv [WxProp.pv x] (.bool (p x))) :
  af TP 126 [.slice sz (l.map WxProp.pv) b,fv] (.bool (l.any p)):=by
 refine ae (ag func126 rfl) rfl (zm ?_);refine aa (KV l p b sz e i j) rfl (zm ?_);rw[fu]
def u9{fv}(l)(p)(b)(sz)(j:sz=2)(y:l.length<1000000000)(z:∀x,x∈l->la TP fv [WxKind.pv x] (.bool (p x))) :
  af TP 207 [.slice sz (l.map WxKind.pv) b,fv] (.int .i64 (an p l 0)):=by
 subst j;refine ae (ag func207 rfl) rfl (zm ?_);refine eZ [0,1,7] l y (τ:=Unit) (λd_ rest _=>an p l 0=an p rest d_.length) (λd_ _=>[(8,.p (.int .i64 d_.length))]) () rfl ?_ ?_ ?_
 .simp only[go_sem,simprocAttr]<;>simp
 .intro _ e;refine zm ?_;rw[e];rfl
 .intro d_ x r _ v e hx u q;obtain⟨g,first,cap,rfl,A⟩:=z x (by rw[v];simp);simp only[u,decide_true,hx,WxKind.pv,go_sem,simprocAttr];refine aa A (by simp[WxKind.pv]) (zm ?_);refine aT (λi=>?_) (λi=>?_)
  .refine zm ?_;grind[an]
  .refine zm ?_;refine am v () (by grind[an]) ?_;simp[q,go_sem]
def Ey{fv}(l:List WxKind)(p)(b)(sz)(e:sz=2)(i:l.length<1000000000)(j:∀x,x∈l->la TP fv [WxKind.pv x] (.bool (p x))) :
  af TP 128 [.slice sz (l.map WxKind.pv) b,fv] (.bool (l.any p)):=by
 refine ae (ag func128 rfl) rfl (zm ?_);refine aa (u9 l p b sz e i j) rfl (zm ?_);rw[fu]
def oL{fv}(l)(p)(b)(sz)(j:sz=4)(y:l.length<1000000000)(z:∀x,x∈l->la TP fv [ClColour.pv x] (.bool (p x))) :
  af TP 145 [.slice sz (l.map ClColour.pv) b,fv] (.int .i64 (an p l 0)):=by
 subst j;refine ae (ag func145 rfl) rfl (zm ?_);refine eZ [0,1,7] l y (τ:=Unit) (λd_ rest _=>an p l 0=an p rest d_.length) (λd_ _=>[(8,.p (.int .i64 d_.length))]) () rfl ?_ ?_ ?_
 .simp only[go_sem,simprocAttr]<;>simp
 .intro _ e;refine zm ?_;rw[e];rfl
 .intro d_ x r _ v e hx u q;obtain⟨g,first,cap,rfl,A⟩:=z x (by rw[v];simp);simp only[u,decide_true,hx,ClColour.pv,go_sem,simprocAttr];refine aa A (by simp[ClColour.pv]) (zm ?_);refine aT (λi=>?_) (λi=>?_)
  .refine zm ?_;grind[an]
  .refine zm ?_;refine am v () (by grind[an]) ?_;simp[q,go_sem]
def Ew{fv}(l:List ClColour)(p)(b)(sz)(e:sz=4)(i:l.length<1000000000)(j:∀x,x∈l->la TP fv [ClColour.pv x] (.bool (p x))) :
  af TP 80 [.slice sz (l.map ClColour.pv) b,fv] (.bool (l.any p)):=by
 refine ae (ag func80 rfl) rfl (zm ?_);refine aa (oL l p b sz e i j) rfl (zm ?_);rw[fu]
def tT{fv}(l)(p)(b)(sz)(j:sz=4)(y:l.length<1000000000)(z:∀x,x∈l->la TP fv [ChLot.pv x] (.bool (p x))) :
  af TP 301 [.slice sz (l.map ChLot.pv) b,fv] (.int .i64 (an p l 0)):=by
 subst j;refine ae (ag func301 rfl) rfl (zm ?_);refine eZ [0,1,7] l y (τ:=Unit) (λd_ rest _=>an p l 0=an p rest d_.length) (λd_ _=>[(8,.p (.int .i64 d_.length))]) () rfl ?_ ?_ ?_
 .simp only[go_sem,simprocAttr]<;>simp
 .intro _ e;refine zm ?_;rw[e];rfl
 .intro d_ x r _ v e hx u q;obtain⟨g,first,cap,rfl,A⟩:=z x (by rw[v];simp);simp only[u,decide_true,hx,ChLot.pv,go_sem,simprocAttr];refine aa A (by simp[ChLot.pv]) (zm ?_);refine aT (λi=>?_) (λi=>?_)
  .refine zm ?_;grind[an]
  .refine zm ?_;refine am v () (by grind[an]) ?_;simp[q,go_sem]
def Dn{fv}(l:List ChLot)(p)(b)(sz)(e:sz=4)(i:l.length<1000000000)(j:∀x,x∈l->la TP fv [ChLot.pv x] (.bool (p x))) :
  af TP 231 [.slice sz (l.map ChLot.pv) b,fv] (.bool (l.any p)):=by
 refine ae (ag func231 rfl) rfl (zm ?_);refine aa (tT l p b sz e i j) rfl (zm ?_);rw[fu]
def tS{fv}(l)(p)(b)(sz)(j:sz=4)(y:l.length<1000000000)(z:∀x,x∈l->la TP fv [ChBatch.pv x] (.bool (p x))) :
  af TP 305 [.slice sz (l.map ChBatch.pv) b,fv] (.int .i64 (an p l 0)):=by
 subst j;refine ae (ag func305 rfl) rfl (zm ?_);refine eZ [0,1,7] l y (τ:=Unit) (λd_ rest _=>an p l 0=an p rest d_.length) (λd_ _=>[(8,.p (.int .i64 d_.length))]) () rfl ?_ ?_ ?_
 .simp only[go_sem,simprocAttr]<;>simp
 .intro _ e;refine zm ?_;rw[e];rfl
 .intro d_ x r _ v e hx u q;obtain⟨g,first,cap,rfl,A⟩:=z x (by rw[v];simp);simp only[u,decide_true,hx,ChBatch.pv,go_sem,simprocAttr];refine aa A (by simp[ChBatch.pv]) (zm ?_);refine aT (λi=>?_) (λi=>?_)
  .refine zm ?_;grind[an]
  .refine zm ?_;refine am v () (by grind[an]) ?_;simp[q,go_sem]
def Dm{fv}(l:List ChBatch)(p)(b)(sz)(e:sz=4)(i:l.length<1000000000)(j:∀x,x∈l->la TP fv [ChBatch.pv x] (.bool (p x))) :
  af TP 236 [.slice sz (l.map ChBatch.pv) b,fv] (.bool (l.any p)):=by
 refine ae (ag func236 rfl) rfl (zm ?_);refine aa (tS l p b sz e i j) rfl (zm ?_);rw[fu]
def PD(l)(b)(e:l≠[])(i:l.length<1000000000):il TP 323 [.slice 1 (l.map ay) b] (.slice 1 (l.map ay) false):=by
 refine e9 (ag func323 rfl) rfl ?_;have u:¬(l.map ay=[]):=by simpa using e
 have q:l.length<=ai:=by simp[ai];omega
 have j:¬((l.map ay).map AV.p=[]):=by simpa using e
 simp only[u,q,j,go_sem,simprocAttr]
def R0(a b:Nat)(h:a+b<1000000000):i64.wrap (Int.fdiv (IntKind.u64.wrap ((a)+(b))) 2)=(((a+b) / 2:Nat):Int):=by
 have e:IntKind.u64.wrap ((a:Int)+(b:Int))=((a+b:Nat):Int):=by
  unfold IntKind.wrap IntKind.signed IntKind.bits;simp;omega
 rw[e];have i:Int.fdiv ((a+b:Nat):Int) 2=(((a+b) / 2:Nat):Int):=by
  rw[Int.fdiv_eq_ediv_of_nonneg _ (by omega)];omega
 rw[i];exact ct (by omega) (by simp[ai];omega)
def V'{fv}(n:Nat)(p:Nat->Bool)(J:n<100000000)(E:∀i,i<n->la TP fv [.int .i64 i] (.bool (p i)))(r)(D:r<=n)(I:∀i,i<r->p i=false)(G:∀i,r<=i->i<n->p i=true) :
  af TP 412 [.int .i64 n,fv] (.int .i64 r):=by
 refine ae (ag func412 rfl) rfl (zm ?_);refine mR [1] (σ:=Nat×Nat) (λs=>s.1<=r/\r<=s.2/\s.2<=n) (λs=>s.2-s.1) (λs=>[(5,.p (.int .i64 s.1)),(6,.p (.int .i64 s.2))]) (0,n) ⟨by omega,D,by omega⟩ ?_ ?_
 .simp[go_sem]
 .rintro⟨i,j⟩ ⟨C,A,z⟩
  dsimp only at C A z;simp only[go_sem,simprocAttr];refine aT (λq=>?_) (λq=>?_)
  .have y:i<j:=by simpa using q
   have hw:i64.wrap ((i:Int)+(j:Int))=((i:Int)+(j:Int)):=ct (by omega) (by simp[ai];omega);have hh:=R0 i j (by omega);have u:(2:Int)^min 1 64=2:=rfl;obtain⟨g,first,cap,rfl,F⟩:=E ((i+j) / 2) (by omega);simp only[hw,gG,IntKind.bits,u,hh,go_sem,simprocAttr];refine aa F (by simp) ?_;simp only[go_sem,simprocAttr];cases e:p ((i+j) / 2)
   .simp only[go_sem,simprocAttr];have l:¬(r<=(i+j) / 2):=λh=>by grind
    refine aF ((i+j) / 2+1,j) ⟨by omega,A,z⟩ (by omega) ?_;have v:i64.wrap ((((i+j) / 2:Nat):Int)+1)=(((i+j) / 2+1:Nat):Int):=aO (by omega) (by simp[ai];omega) (by omega);simp only[v,go_sem,simprocAttr]
   .refine zm ?_;have l:r<=(i+j) / 2:=by
     rcases dO ((i+j) / 2) r with h|h
     .grind
     .exact h
    refine aF (i,(i+j) / 2) ⟨C,l,by omega⟩ (by omega) ?_;simp[go_sem]
  .have y:¬(i<j):=by simpa using q
   have:i=r:=by omega
   subst this;simp[go_sem]
open Go.IntKind (i64)
set_option maxRecDepth 4000
def aq (n lo hi:Int):Bool:=decide (lo<=n)&&decide (n<=hi)
def xn(n lo hi):af TP 82 [.int .i64 n,.int .i64 lo,.int .i64 hi] (.bool (aq n lo hi)):=by
 refine ae (ag func82 rfl) rfl (zm ?_);refine aT (λe=>?_) (λe=>?_)<;>refine zn e ?_<;>simp[aq,e]
def zh(n lo hi):af TP 85 [.int .i64 n,.int .i64 lo,.int .i64 hi] (.bool (aq n lo hi)):=by
 refine ae (ag func85 rfl) rfl (zm ?_);refine aT (λe=>?_) (λe=>?_)<;>refine zn e ?_<;>simp[aq,e]
def BG(n lo hi):af TP 88 [.int .i64 n,.int .i64 lo,.int .i64 hi] (.bool (aq n lo hi)):=by
 refine ae (ag func88 rfl) rfl (zm ?_);refine aT (λe=>?_) (λe=>?_)<;>refine zn e ?_<;>simp[aq,e]
def vb(n lo hi):af TP 91 [.int .i64 n,.int .i64 lo,.int .i64 hi] (.bool (aq n lo hi)):=by
 refine ae (ag func91 rfl) rfl (zm ?_);refine aT (λe=>?_) (λe=>?_)<;>refine zn e ?_<;>simp[aq,e]
def ec (lo hi low high:Int):Int:=if aq lo low high=true/\aq hi low high=true then(if hi<lo then 2 else 0) else 7
def oc(lo hi low e):af TP 90 [.agg [.int .i64 lo,.int .i64 hi],.int .i64 low,.int .i64 e] (.int .i64 (ec lo hi low e)):=by
 refine ae (ag func90 rfl) rfl (zm ?_)
 repeat' first
  |(refine aa (xn _ _ _) rfl ?_;simp[go_sem])
  |(refine aT (λi=>?_) (λi=>?_)<;>simp[i,go_sem])
 all_goals simp_all [ec]
def sj (c last:Int):Bool:=(c != 45&&(decide (c<97)||decide (122<c)))||(c==45&&last==45)
def eB:List UInt8->Int->Bool
 |[],last=>last != 45
 |c::r,last=>if sj c.toNat last=true then false else eB r c.toNat
def nameOk (s:ByteArray):Bool:=eB s.data.toList 45&&decide ((s.size:Int)<=20)
def qT(s:ByteArray)(i:Nat):s[i]?=s.data.toList[i]?:=by
 by_cases h:i<s.size
 .have h':i<s.data.toList.length:=by simpa using h
  rw[getElem?_pos s i h,bL h'];rfl
 simp_all
attribute [go_sem] qT
def kY(s):af TP 62 [.str s] (.bool (nameOk s)):=by
 refine ae (ag func62 rfl) rfl (zm ?_)
 refine dl [0,7] (σ:=List UInt8×List UInt8×Int) (λq=>s.data.toList=q.1++q.2.1/\eB s.data.toList 45=eB q.2.1 q.2.2) (λq=>q.2.1.length)
  (λq=>[(3,.p (.int .i32 q.2.2))]) (λq=>[.strIter s q.1.length]) ([],s.data.toList,45) ⟨rfl,rfl⟩ ?_ ?_
 .simp[go_sem]
 .rintro⟨d_,rest,last⟩ ⟨e1,e2⟩
  dsimp only at e1 e2
  cases rest with
  |nil=>
   have hlt:¬(d_.length<s.size):=by
    have:=congrArg List.length e1;simp at this |-;omega
   refine zn hlt ?_;refine aT (λhb=>?_) (λhb=>?_)<;>refine zn hb ?_
   .simp[nameOk,e2,eB,hb]
   .simp[nameOk,e2,eB,hb]
  |cons c r=>
   obtain⟨hx,_⟩:=ca e1;have hlt:d_.length<s.size:=by
    have:=congrArg List.length e1;simp at this |-;omega
   have hc:(s[d_.length]'hlt)=c:=by
    have:=qT s d_.length;rw[hx,getElem?_pos s d_.length hlt]at this;exact kw this
   rcases dO c.toNat 128 with hlow|hhigh
   .have hd:Utf8.decode s d_.length=(c.toNat,1):=by
     rw[decode_ascii s d_.length hlt (by grind),hc]
    refine zo hlt hd ?_
    repeat' first
     |(refine aT (λhb=>?_) (λhb=>?_)<;>simp[hb,go_sem])
    all_goals first
     |(refine aF (d_++[c],r,(c.toNat:Int)) ⟨by simp[e1],?_⟩ (by simp) ?_
       .rw[e2];simp_all [eB,sj]
       .refine zm ?_;simp)
     |(simp only[nameOk,e2];simp_all [eB,sj];done)
   .have hd:=decode_high s d_.length hlt (by rw[hc];exact hhigh);have h1:(((Utf8.decode s d_.length).1:Int) != 45)=true:=by simp;omega
    have h2:decide (((Utf8.decode s d_.length).1:Int)<97)=false:=by simp;omega
    have h3:decide ((122:Int)<((Utf8.decode s d_.length).1:Int))=true:=by simp;omega
    refine s_ hlt h1 h2 h3 ?_;have hbad:sj c.toNat last=true:=by
     have g1:((c.toNat:Int) != 45)=true:=by simp;omega
     have g3:decide ((122:Int)<(c.toNat:Int))=true:=by simp;omega
     simp[sj,g1,g3]
    simp[nameOk,e2,eB,hbad]
def EG(c e):sj c e=((c != 45&&!aq c 97 122)||(c==45&&e==45)):=by
 grind[sj,aq]
def rl (l:List UInt8):Int:=match l.getLast? with|some c=>(c.toNat:Int)|none=>45
def CL(l)(c):rl (l++[c])=(c.toNat:Int):=by simp[rl]
def UG(c:UInt8):i64.wrap (c.toNat:Int)=(c.toNat:Int):=ct (by omega) (by have:=c.toNat_lt;simp[ai];omega)
def Je(s):af TP 146 [.str s] (.bool (nameOk s)):=by
 refine ae (ag func146 rfl) rfl (zm ?_);refine aa (xn _ _ _) rfl ?_;cases T:aq s.size 1 20
 .refine zm ?_;have:nameOk s=false:=by
   unfold nameOk
   cases Z:s.data.toList with
   |nil=>simp[eB]
   |cons b bs=>
    have:1<=s.size:=by have:=congrArg List.length Z;simp at this;omega
    have h2:¬((s.size:Int)<=20):=by
     intro h;have h1:(1:Int)<=(s.size:Int):=by omega
     simp[aq,h,h1]at T
    simp[h2]
  rw[this]
 .have S:(1:Int)<=(s.size:Int)/\(s.size:Int)<=20:=by simpa[aq]using T
  have K:s.data.toList.length=s.size:=by simp
  obtain⟨b0,v⟩:∃b,s.data.toList[0]?=some b:=⟨_,bL (by omega)⟩
  obtain⟨bl,U⟩:∃b,s.data.toList[s.size-1]?=some b:=⟨_,bL (by omega)⟩
  have z:s.data.toList.getLast?=some bl:=by rw[List.getLast?_eq_getElem?,K];exact U
  have hw:i64.wrap ((s.size:Int)-1)=((s.size-1:Nat):Int):=by
   rw[ct (by omega) (by simp[ai];omega)];omega
  have V:(((s.size-1:Nat):Int))<(s.size:Int):=by omega
  have R:nameOk s=eB s.data.toList 45:=by unfold nameOk;simp[S.2]
  rw[R];refine zo @qT v ?_;cases F:((b0.toNat:Int)==45)
  .refine zp @qT hw U ?_;cases J:((bl.toNat:Int)==45)
   .refine zm ?_
    refine dl [0] (σ:=List UInt8×List UInt8) (λq=>s.data.toList=q.1++q.2/\eB s.data.toList 45=eB q.2 (rl q.1)) (λq=>q.2.length)
     (λq=>[(3,.p (.int .i64 q.1.length))]) (λ_=>[]) ([],s.data.toList) ⟨rfl,rfl⟩ ?_ ?_
    .simp only[go_sem,simprocAttr]<;>simp
    .rintro⟨d_,rest⟩ ⟨C,M⟩
     dsimp only at C M
     cases rest with
     |nil=>
      have y:¬((d_.length:Int)<(s.size:Int)):=by
       have:=congrArg List.length C;simp at this;omega
      refine zo y decide_false ?_;rw[M];grind[eB,rl]
     |cons c r=>
      obtain⟨hx,_⟩:=ca C;have y:(d_.length:Int)<(s.size:Int):=by
       have:=congrArg List.length C;simp at this;omega
      have E:i64.wrap ((d_.length:Int)+1)=(((d_++[c]).length:Nat):Int):=aO (by omega) (by simp[ai];omega) (by simp);refine s_ y decide_true @qT hx ?_;have j:sj c.toNat (rl d_)=false->eB s.data.toList 45=eB r (rl (d_++[c])):=λh=>by
       rw[M,eB,h,CL];rfl
      have e:sj c.toNat (rl d_)=true->eB s.data.toList 45=false:=λh=>by
       grind[eB]
      rw[EG]at j e;have next:sj c.toNat (rl d_)=false->(s.data.toList=(d_++[c])++r/\eB s.data.toList 45=eB r (rl (d_++[c]))):=λh=>⟨by simp[C],by grind[eB,rl]⟩
      rw[EG]at next;cases u:((c.toNat:Int)==45)
      .have A:((c.toNat:Int) != 45)=true:=by simp[bne,u]
       refine zp A hx @UG ?_;refine aa (xn _ _ _) rfl ?_;cases N:aq c.toNat 97 122
       .refine zm ?_;grind
       .refine zm ?_;refine aT (λL=>?_) (λL=>?_)<;>refine zn L ?_
        .refine zo hx u ?_;refine aF (d_++[c],r) (next (by simp[u,N])) (by simp) ?_;simp[E,go_sem]
        .refine aF (d_++[c],r) (next (by simp[u,N])) (by simp) ?_;simp[E,go_sem]
      .have A:((c.toNat:Int) != 45)=false:=by simp[bne,u]
       simp only[A,go_sem,simprocAttr];rcases AW d_ with rfl|⟨i,d,G⟩
       .exfalso;grind
       .rw[AX]at G;subst G;have L:decide ((0:Int)<(((i++[d]).length:Nat):Int))=true:=by simp<;>omega
        have O:i64.wrap ((((i++[d]).length:Nat):Int)-1)=((i.length:Nat):Int):=by
         rw[ct (by simp<;>omega) (by grind[ai])];simp
        have Y:s.data.toList[i.length]?=some d:=by rw[C];simp
        simp only[L,hx,u,O,Y,go_sem,simprocAttr];rw[CL]at j e next;cases D:((d.toNat:Int)==45)
        .simp only[go_sem,simprocAttr];refine aF (i++[d]++[c],r) (next (by simp[u,bne,D])) (by simp) ?_;simp only[E,go_sem,simprocAttr]
        .refine zm ?_;grind
   .refine zm ?_;have:∀(l:List UInt8) (p:Int),l.getLast?=some bl->eB l p=false:=by
     intro l
     induction l with
     |nil=>simp
     |cons c r X=>
      grind[eB]
    grind
  .refine zm ?_;have:eB s.data.toList 45=false:=by
    cases I:s.data.toList with
    |nil=>rfl
    |cons c r=>
     rw[I]at v;simp at v;subst v;unfold eB;grind[sj,eB]
   rw[this]
def firstErr {α:Type} (f:List ByteArray->α->Int) (nm:α->ByteArray):List α->List ByteArray->Option (Int×Int)
 |[],_=>none
 |x::r,before=>if f before x=0 then firstErr f nm r (before++[nm x]) else some ((before.length:Int),f before x)
def ao (t:Int×Int×Int):PV:=.tuple [.int .i64 t.1,.int .i64 t.2.1,.int .i64 t.2.2]
def ar (before:List ByteArray) (s:ByteArray):Int:=if nameOk s=true then(if before.any (λt=>t==s)=true then 5 else 0) else 6
def QO(s)(l)(b)(z:l.length<1000000000):af TP 83 [.str s,.slice 1 (l.map .str) b] (.int .i64 (ar l s)):=by
 refine ae (ag func83 rfl) rfl (zm ?_);refine aa (Je s) rfl (zm ?_);cases v:nameOk s
 .refine zm ?_;simp[ar,v]
 .refine zm ?_;refine mR [0,1] (σ:=List ByteArray×List ByteArray) (λq=>l=q.1++q.2/\ar l s=(if q.2.any (λt=>t==s)=true then 5 else 0)) (λq=>q.2.length) (λq=>[(5,.p (.int .i64 q.1.length))]) ([],l) ⟨rfl,by simp[ar,v]⟩ ?_ ?_
  .simp only[go_sem,simprocAttr]<;>simp
  .rintro⟨d_,rest⟩ ⟨j,i⟩
   dsimp only at j i
   cases rest with
   |nil=>
    have e:¬((d_.length:Int)<(l.length:Int)):=by rw[j];simp
    refine zo e decide_false ?_
    rw[i];rfl
   |cons x r=>
    obtain⟨hx,e⟩:=ca j;have u:i64.wrap ((d_.length:Int)+1)=(((d_++[x]).length:Nat):Int):=aO (by omega) (by simp[ai];omega) (by simp);refine zp e decide_true hx ?_;rw[bZ]at i;cases y:(x==s)
    .refine zm ?_;refine aF (d_++[x],r) ⟨by simp[j],by rw[i,y];rfl⟩ (by simp) ?_;simp[u,go_sem]
    .refine zm ?_;rw[i,y];rfl
def kQ(s)(l)(b)(xs)(hx:xs=l.map .str)(e:l.length<1000000000):af TP 83 [.str s,.slice 1 xs b] (.int .i64 (ar l s)):=by
 subst hx;exact QO s l b e
def Wr(lo hi n):af TP 139 [.int .i64 n,.ptr 1 [.int .i64 lo] 0 0,.ptr 1 [.int .i64 hi] 0 0] (.bool (!aq n lo hi)):=by
 refine ae (ag func139 rfl) rfl (zm ?_);refine aT (λe=>?_) (λe=>?_)<;>refine zn e ?_<;>simp_all [aq];grind
def kR(lo hi)(l:List Int)(b)(e:l.length<1000000000):af TP 74 [.int .i64 lo,.int .i64 hi,.slice 1 (l.map ay) b] (.bool (l.any λn=>!aq n lo hi)):=by
 refine ae (ag func74 rfl) rfl (zm ?_);refine bq (lD (fv:=.func (.func 139) [] [.ptr 1 [.int .i64 lo] 0 0,.ptr 1 [.int .i64 hi] 0 0]) l (λn=>!aq n lo hi) b 1 rfl e λn _=>⟨_,_,_,rfl,Wr lo hi n⟩) ?_ (.bool _) ?_
 .simp[go_sem]
 .simp[go_sem]
def Jl(x:HrKind):af TP 76 [x.pv] (.str x.name):=by
 refine ae (ag func76 rfl) rfl ?_;simp[go_sem]
def Tg(s)(x:HrKind):af TP 141 [x.pv,.ptr 1 [.func (.func 76) [] []] 0 0,.ptr 1 [.str s] 0 0] (.bool (x.name==s)):=by
 refine ae (ag func141 rfl) rfl (zm ?_);refine aj (Jl x) rfl ?_;simp[go_sem]
def QX(l)(x)(b)(z:l.length<1000000):af TP 75 [.slice 4 ((l++[x]).map HrKind.pv) b,.func (.func 76) [] []] (.int .i64 (ar (l.map (·.name)) x.name)):=by
 have hw:i64.wrap ((((l++[x]).length:Nat):Int)-1)=((l.length:Nat):Int):=by
  rw[ct (by simp<;>omega) (by grind[ai])];simp
 have hx:(l++[x])[l.length]?=some x:=by simp
 have q:((l.length:Nat):Int)<(((l++[x]).length:Nat):Int):=by simp<;>omega
 have u:((l.length:Nat):Int)<=(((l++[x]).length:Nat):Int):=by omega
 have j:((l++[x]).map HrKind.pv).take l.length=l.map HrKind.pv:=by rw[aS,eX (by simp)]
 have v:(l.length==(l++[x]).length)=false:=by simp
 refine ae (ag func75 rfl) rfl (zp hw hx q ?_);refine aj (Jl x) rfl (zm ?_);refine aa (kY x.name) rfl (zm ?_);cases i:nameOk x.name
 .refine zm ?_;simp[ar,i]
 .refine zp u j v ?_;refine bq (ED (fv:=.func (.func 141) [] [.ptr 1 [.func (.func 76) [] []] 0 0,.ptr 1 [.str x.name] 0 0]) l (λy=>y.name==x.name) false 4 rfl (by omega) λy _=>⟨_,_,_,rfl,Tg x.name y⟩) ?_ (.bool _) ?_
  .simp[go_sem]
  refine zm ?_;refine aT (λe=>?_) (λe=>?_)<;>refine zn e ?_
  .grind[ar]
  grind[ar]
def Jk(x:HrRule):af TP 78 [x.pv] (.str x.name):=by
 refine ae (ag func78 rfl) rfl ?_;simp[go_sem]
def Tf(s)(x:HrRule):af TP 143 [x.pv,.ptr 1 [.func (.func 78) [] []] 0 0,.ptr 1 [.str s] 0 0] (.bool (x.name==s)):=by
 refine ae (ag func143 rfl) rfl (zm ?_);refine aj (Jk x) rfl ?_;simp[go_sem]
def QW(l)(x)(b)(z:l.length<1000000):af TP 77 [.slice 5 ((l++[x]).map HrRule.pv) b,.func (.func 78) [] []] (.int .i64 (ar (l.map (·.name)) x.name)):=by
 have hw:i64.wrap ((((l++[x]).length:Nat):Int)-1)=((l.length:Nat):Int):=by
  rw[ct (by simp<;>omega) (by grind[ai])];simp
 have hx:(l++[x])[l.length]?=some x:=by simp
 have q:((l.length:Nat):Int)<(((l++[x]).length:Nat):Int):=by simp<;>omega
 have u:((l.length:Nat):Int)<=(((l++[x]).length:Nat):Int):=by omega
 have j:((l++[x]).map HrRule.pv).take l.length=l.map HrRule.pv:=by rw[aS,eX (by simp)]
 have v:(l.length==(l++[x]).length)=false:=by simp
 refine ae (ag func77 rfl) rfl (zp hw hx q ?_);refine aj (Jk x) rfl (zm ?_);refine aa (kY x.name) rfl (zm ?_);cases i:nameOk x.name
 .refine zm ?_;simp[ar,i]
 .refine zp u j v ?_;refine bq (EC (fv:=.func (.func 143) [] [.ptr 1 [.func (.func 78) [] []] 0 0,.ptr 1 [.str x.name] 0 0]) l (λy=>y.name==x.name) false 5 rfl (by omega) λy _=>⟨_,_,_,rfl,Tf x.name y⟩) ?_ (.bool _) ?_
  .simp[go_sem]
  refine zm ?_;refine aT (λe=>?_) (λe=>?_)<;>refine zn e ?_
  .grind[ar]
  grind[ar]
def fo (k:HrKind):Int:=
 if(aq k.weight.lo 1 10000000&&aq k.weight.hi 1 10000000&&aq k.rest 0 10000000)=true then(if(decide (k.weight.hi<k.weight.lo)||decide (k.weight.lo<=k.rest))=true then 2 else 0) else 7
def fJ (r:HrRule):Int:=
 if(aq r.minutes.lo 0 1000000&&aq r.minutes.hi 0 1000000&&(aq r.weight.lo 0 10000000&&aq r.weight.hi 0 10000000))=true then
  (if(decide (r.minutes.hi<r.minutes.lo)||decide (r.weight.hi<r.weight.lo))=true then 2 else 0) else 7
def ck (before:List ByteArray) (k:HrKind):Int:=if ar before k.name=0 then fo k else ar before k.name
def dz (before:List ByteArray) (r:HrRule):Int:=if ar before r.name=0 then fJ r else ar before r.name
def j4 (s:HrShop):Option (Int×Int)->Int×Int×Int
 |some (i,e)=>(2,i,e)
 |none=>match firstErr dz (·.name) s.rules []with|some (i,e)=>(3,i,e)|none=>(0,0,0)
def hrCheck (s:HrShop):Int×Int×Int:=
 if(aq s.kinds.length 1 6&&decide (s.rules.length<=6))=true then
  if aq s.margin 0 500=true then j4 s (firstErr ck (·.name) s.kinds []) else(1,0,7)
 else(1,0,3)
def Fy{s}{d_ r}{x}(_:s.kinds=d_++x::r)(q:firstErr ck (·.name) s.kinds []=firstErr ck (·.name) (x::r) (d_.map (·.name))) :
  (ck (d_.map (·.name)) x=0->firstErr ck (·.name) s.kinds []=firstErr ck (·.name) r ((d_++[x]).map (·.name))) /\
  ∀e,ck (d_.map (·.name)) x=e->e≠0->j4 s (firstErr ck (·.name) s.kinds [])=(2,(d_.length:Int),e):=by
 grind[ck,firstErr,j4]
def Fx{s}{d_ r}{x}(_:s.rules=d_++x::r)(q:firstErr dz (·.name) s.rules []=firstErr dz (·.name) (x::r) (d_.map (·.name))) :
  (dz (d_.map (·.name)) x=0->firstErr dz (·.name) s.rules []=firstErr dz (·.name) r ((d_++[x]).map (·.name))) /\
  ∀e,dz (d_.map (·.name)) x=e->e≠0->j4 s none=(3,(d_.length:Int),e):=by
 grind[dz,firstErr,j4]
def Jm(s):af TP 23 [s.pv] (ao (hrCheck s)):=by
 refine ae (ag func23 rfl) rfl (zm ?_);refine aa (kR 1 6 [_] true (by simp)) rfl ?_;simp only[bZ,cO,dd,go_sem,simprocAttr];cases K:aq s.kinds.length 1 6
 .simp[ao,hrCheck,K,go_sem]
 refine zm ?_;cases O:decide ((6:Int)<(s.rules.length:Int));rotate_left
 .have v:decide (s.rules.length<=6)=false:=by simp at O |-;omega
  simp[ao,hrCheck,K,v,go_sem]
 have v:decide (s.rules.length<=6)=true:=by simp at O |-;omega
 refine zm ?_;refine aa (kR 0 500 [_] true (by simp)) rfl ?_;simp only[bZ,cO,dd,go_sem,simprocAttr];cases N:aq s.margin 0 500
 .simp[ao,hrCheck,K,v,N,go_sem]
 have I:hrCheck s=j4 s (firstErr ck (·.name) s.kinds []):=by simp only[hrCheck,K,v,N,tj,if_true]
 rw[I];have S:s.kinds.length<=6:=by simp[aq]at K;omega
 have R:s.rules.length<=6:=by simpa using v
 refine zm ?_
 refine aG [1,27,28] s.kinds (by omega) (τ:=Unit) (λd_ rest _=>firstErr ck (·.name) s.kinds []=firstErr ck (·.name) rest (d_.map (·.name)))
  (λd_ _=>[(29,.p (.int .i64 d_.length)),(4,.p (.int .i64 0))]) (λ_ _=>[.row 3 [.p s.pv]]) () rfl ?_ ?_ ?_
 .simp only[go_sem,simprocAttr]<;>simp
 .intro _ C;have L:j4 s (firstErr ck (·.name) s.kinds [])=j4 s none:=by rw[C];rfl
  rw[L];refine zm ?_
  refine aG [1,80,81] s.rules (by omega) (τ:=Unit) (λd_ rest _=>firstErr dz (·.name) s.rules []=firstErr dz (·.name) rest (d_.map (·.name)))
   (λd_ _=>[(82,.p (.int .i64 d_.length)),(4,.p (.int .i64 0))]) (λ_ _=>[.row 3 [.p s.pv]]) () rfl ?_ ?_ ?_
  .simp only[go_sem,simprocAttr]<;>simp
  .intro _ C;have L:j4 s none=(0,0,0):=by
    simp only[j4];rw[C];rfl
   simp[ao,L,go_sem]
  .intro d_ x r _ q C hx E u;obtain⟨M,i⟩:=Fx q C;have F:(((d_++[x]).length:Nat):Int)<=(s.rules.length:Int):=by rw[q];simp<;>omega
   have D:(s.rules.map HrRule.pv).take (d_++[x]).length=(d_++[x]).map HrRule.pv:=by
    rw[q,show d_++x::r=(d_++[x])++r by simp,aS,eX (by simp)]
   have G:d_.length<1000000:=by have:=congrArg List.length q;simp at this;omega
   refine t_ E hx u F D ?_;refine aa (QW d_ x false G) rfl (zm ?_);cases A:(ar (d_.map (·.name)) x.name != 0)
   rotate_left
   .have e:ar (d_.map (·.name)) x.name≠0:=by simpa using A
    simp only[A,ao,i _ (by rw[dz,if_neg e]) e,go_sem,simprocAttr]
   have e:ar (d_.map (·.name)) x.name=0:=by simpa using A
   have j:dz (d_.map (·.name)) x=fJ x:=by rw[dz,if_pos e]
   refine zm ?_;refine aa (kR 0 1000000 [_,_] true (by simp)) rfl ?_;simp only[bZ,cO,dd,<-mT,go_sem,simprocAttr];cases l:(aq x.minutes.lo 0 1000000&&aq x.minutes.hi 0 1000000)
   .simp only[ao,i 7 (by rw[j,fJ,l];rfl) (by decide),go_sem,simprocAttr]
   refine zm ?_;refine aa (kR 0 10000000 [_,_] true (by simp)) rfl ?_;simp only[bZ,cO,dd,<-mT,go_sem,simprocAttr];cases y:(aq x.weight.lo 0 10000000&&aq x.weight.hi 0 10000000)
   .simp only[ao,i 7 (by rw[j,fJ,l,y];rfl) (by decide),go_sem,simprocAttr]
   refine zm ?_;cases z:decide (x.minutes.hi<x.minutes.lo);rotate_left
   .simp only[ao,i 2 (by rw[j,fJ,l,y,z];rfl) (by decide),go_sem,simprocAttr]
   refine zm ?_;cases J:decide (x.weight.hi<x.weight.lo);rotate_left
   .simp only[ao,i 2 (by rw[j,fJ,l,y,z,J];rfl) (by decide),go_sem,simprocAttr]
   refine zn e ?_;refine am q () (M (by rw[j,fJ,l,y,z,J];rfl)) ?_;simp[u,go_sem]
 .intro d_ x r _ q C hx E u;obtain⟨M,i⟩:=Fy q C;have F:(((d_++[x]).length:Nat):Int)<=(s.kinds.length:Int):=by rw[q];simp<;>omega
  have D:(s.kinds.map HrKind.pv).take (d_++[x]).length=(d_++[x]).map HrKind.pv:=by
   rw[q,show d_++x::r=(d_++[x])++r by simp,aS,eX (by simp)]
  have G:d_.length<1000000:=by have:=congrArg List.length q;simp at this;omega
  refine t_ E hx u F D ?_;refine aa (QX d_ x false G) rfl (zm ?_);cases A:(ar (d_.map (·.name)) x.name != 0)
  rotate_left
  .have e:ar (d_.map (·.name)) x.name≠0:=by simpa using A
   simp only[A,ao,i _ (by rw[ck,if_neg e]) e,go_sem,simprocAttr]
  have e:ar (d_.map (·.name)) x.name=0:=by simpa using A
  have j:ck (d_.map (·.name)) x=fo x:=by rw[ck,if_pos e]
  refine zm ?_;refine aa (kR 1 10000000 [_,_] true (by simp)) rfl ?_;simp only[bZ,cO,dd,<-mT,go_sem,simprocAttr];cases l:(aq x.weight.lo 1 10000000&&aq x.weight.hi 1 10000000)
  .simp only[ao,i 7 (by rw[j,fo,l];rfl) (by decide),go_sem,simprocAttr]
  refine zm ?_;refine aa (kR 0 10000000 [_] true (by simp)) rfl ?_;simp only[bZ,cO,dd,go_sem,simprocAttr];cases y:aq x.rest 0 10000000
  .simp only[ao,i 7 (by rw[j,fo,l,y];rfl) (by decide),go_sem,simprocAttr]
  refine zm ?_;cases z:decide (x.weight.hi<x.weight.lo);rotate_left
  .simp only[ao,i 2 (by rw[j,fo,l,y,z];rfl) (by decide),go_sem,simprocAttr]
  refine zm ?_;cases J:decide (x.weight.lo<=x.rest);rotate_left
  .simp only[ao,i 2 (by rw[j,fo,l,y,z,J];rfl) (by decide),go_sem,simprocAttr]
  refine zn e ?_;refine am q () (M (by rw[j,fo,l,y,z,J];rfl)) ?_;simp[u,go_sem]
def NW(x):af TP 92 [x.pv] (.int .i64 (fo x)):=by
 refine ae (ag func92 rfl) rfl (zm ?_);refine aa (oc _ _ _ _) rfl (zm ?_);refine aa (vb _ _ _) rfl ?_;unfold fo;cases i:aq x.weight.lo 1 10000000
 .have e:ec x.weight.lo x.weight.hi 1 10000000=7:=by simp[ec,i]
  cases u:aq x.rest 0 10000000
  .simp[e,go_sem]
  .simp[e,go_sem]
 cases j:aq x.weight.hi 1 10000000
 .have e:ec x.weight.lo x.weight.hi 1 10000000=7:=by simp[ec,i,j]
  cases u:aq x.rest 0 10000000
  .simp[e,go_sem]
  .simp[e,go_sem]
 cases u:aq x.rest 0 10000000
 .simp[go_sem]
 cases q:decide (x.weight.hi<x.weight.lo)
 .have e:ec x.weight.lo x.weight.hi 1 10000000=0:=by simp[ec,i,j];simpa using q
  cases l:decide (x.weight.lo<=x.rest)
  .simp[e,l,go_sem]
  .simp[e,l,go_sem]
 .have e:ec x.weight.lo x.weight.hi 1 10000000=2:=by simp[ec,i,j];simpa using q
  simp[e,go_sem]
def NV(x):af TP 93 [x.pv] (.int .i64 (fJ x)):=by
 refine ae (ag func93 rfl) rfl ?_;simp only[go_sem,simprocAttr];refine aj (oc _ _ _ _) rfl (zm ?_);refine aj (oc _ _ _ _) rfl ?_;unfold fJ;have e:∀(a:Span) (m n:Int),ec a.lo a.hi m n=if(aq a.lo m n&&aq a.hi m n)=true then(if decide (a.hi<a.lo)=true then 2 else 0) else 7:=by
  intro a m n;unfold ec;cases aq a.lo m n<;>cases aq a.hi m n<;>simp
 simp only[e]
 cases q:(aq x.minutes.lo 0 1000000&&aq x.minutes.hi 0 1000000)<;>cases l:(aq x.weight.lo 0 10000000&&aq x.weight.hi 0 10000000) <;>
  cases j:decide (x.minutes.hi<x.minutes.lo)<;>cases i:decide (x.weight.hi<x.weight.lo)<;>(simp only[go_sem,simprocAttr];try rfl)
def rq(s):af TP 28 [s.pv] (ao (hrCheck s)):=by
 refine ae (ag func28 rfl) rfl (zm ?_);refine aa (vb _ _ _) rfl (zm ?_);cases F:aq s.kinds.length 1 6
 .simp[ao,hrCheck,F,go_sem]
 refine zm ?_;cases L:decide ((6:Int)<(s.rules.length:Int));rotate_left
 .have l:decide (s.rules.length<=6)=false:=by simp at L |-;omega
  simp[ao,hrCheck,F,l,go_sem]
 have l:decide (s.rules.length<=6)=true:=by simp at L |-;omega
 refine zm ?_;refine aa (vb _ _ _) rfl (zm ?_);cases K:aq s.margin 0 500
 .simp[ao,hrCheck,F,l,K,go_sem]
 have C:hrCheck s=j4 s (firstErr ck (·.name) s.kinds []):=by simp only[hrCheck,F,l,K,tj,if_true]
 rw[C];have N:s.kinds.length<=6:=by simp[aq]at F;omega
 have M:s.rules.length<=6:=by simpa using l
 refine zm ?_;refine bt 5 1 (by simp only[go_sem,simprocAttr]) (zm ?_)
 refine aG [1] s.kinds (by omega) (τ:=Unit) (λd_ rest _=>firstErr ck (·.name) s.kinds []=firstErr ck (·.name) rest (d_.map (·.name)))
  (λd_ _=>[(5,.slice 1 d_.length 0 d_.length),(6,.p (.int .i64 d_.length))]) (λd_ _=>[.row 3 [.p s.pv],.row 1 (d_.map λx=>.p (.str x.name))]) () rfl ?_ ?_ ?_
 .simp only[go_sem,simprocAttr]<;>simp
 .intro _ v;have I:j4 s (firstErr ck (·.name) s.kinds [])=j4 s none:=by rw[v];rfl
  rw[I];refine zm ?_;refine bt 5 1 (by simp only[go_sem,simprocAttr]) (zm ?_)
  refine aG [1] s.rules (by omega) (τ:=Unit) (λd_ rest _=>firstErr dz (·.name) s.rules []=firstErr dz (·.name) rest (d_.map (·.name)))
   (λd_ _=>[(5,.slice 2 d_.length 0 d_.length),(8,.p (.int .i64 d_.length))]) (λd_ _=>[.row 3 [.p s.pv],.row 1 (s.kinds.map λx=>.p (.str x.name)),.row 1 (d_.map λx=>.p (.str x.name))]) () rfl ?_ ?_ ?_
  .simp only[go_sem,simprocAttr]<;>simp
  .intro _ v;have I:j4 s none=(0,0,0):=by
    simp only[j4];rw[v];rfl
   simp[ao,I,go_sem]
  .intro d_ x r _ G v hx i z;obtain⟨J,q⟩:=Fx G v;have y:d_.length+1<=ai:=by simp[ai];omega
   refine zo i hx ?_;refine bq (kQ x.name (d_.map (·.name)) false (d_.map λx=>.str x.name) (by simp) (by simp;omega)) ?_ (.int _ _) ?_
   .simp[go_sem]
   refine zp y i hx ?_;cases u:(ar (d_.map (·.name)) x.name==0)
   .have e:ar (d_.map (·.name)) x.name≠0:=by simpa using u
    have A:(ar (d_.map (·.name)) x.name != 0)=true:=by simp[bne,u]
    simp only[A,ao,q _ (by rw[dz,if_neg e]) e,go_sem,simprocAttr]
   have e:ar (d_.map (·.name)) x.name=0:=by simpa using u
   have D:dz (d_.map (·.name)) x=fJ x:=by rw[dz,if_pos e]
   refine zo hx i ?_;refine aa (NV x) rfl (zm ?_);cases E:(fJ x != 0)
   rotate_left
   .have j:fJ x≠0:=by simpa using E
    simp[ao,q _ D j,go_sem]
   have j:fJ x=0:=by simpa using E
   refine zm ?_;refine am G () (J (D.trans j)) (zn z ?_);simp
 .intro d_ x r _ G v hx i z;obtain⟨J,q⟩:=Fy G v;have y:d_.length+1<=ai:=by simp[ai];omega
  refine zo i hx ?_;refine bq (kQ x.name (d_.map (·.name)) false (d_.map λx=>.str x.name) (by simp) (by simp;omega)) ?_ (.int _ _) ?_
  .simp[go_sem]
  refine zp y i hx ?_;cases u:(ar (d_.map (·.name)) x.name==0)
  .have e:ar (d_.map (·.name)) x.name≠0:=by simpa using u
   have A:(ar (d_.map (·.name)) x.name != 0)=true:=by simp[bne,u]
   simp only[A,ao,q _ (by rw[ck,if_neg e]) e,go_sem,simprocAttr]
  have e:ar (d_.map (·.name)) x.name=0:=by simpa using u
  have D:ck (d_.map (·.name)) x=fo x:=by rw[ck,if_pos e]
  refine zo hx i ?_;refine aa (NW x) rfl (zm ?_);cases E:(fo x != 0)
  rotate_left
  .have j:fo x≠0:=by simpa using E
   simp[ao,q _ D j,go_sem]
  have j:fo x=0:=by simpa using E
  refine zm ?_;refine am G () (J (D.trans j)) (zn z ?_);simp
def hI (m:HrMark):Bool:=aq m.minute 0 1000000&&aq m.weight 0 10000000
def f':Int->List HrMark->Bool
 |_,[]=>false
 |last,m::r=>decide (m.minute<=last)||f' m.minute r
def bm (nk:Int) (t:HrTest):Int:=
 if aq t.kind 0 (nk-1)=true then
  if aq t.marks.length 2 10=true then
   if aq t.error 0 10000=true then
    if t.marks.all hI=true then(if f' (-1) t.marks=true then 2 else 0) else 7
   else 7
  else 3
 else 4
def F0(s:HrShop)(t)(J:s.kinds.length<=1000):af TP 290 [s.pv,t.pv] (.int .i64 (bm s.kinds.length t)):=by
 refine ae (ag func290 rfl) rfl ?_;have hw:i64.wrap ((s.kinds.length:Int)-1)=(s.kinds.length:Int)-1:=ah;refine zn hw ?_;refine aa (kR 0 _ [_] true (by simp)) rfl ?_;simp only[bZ,cO,dd,go_sem,simprocAttr];cases z:aq t.kind 0 ((s.kinds.length:Int)-1)
 .simp[bm,z,go_sem]
 refine zm ?_;refine aa (kR 2 10 [_] true (by simp)) rfl ?_;simp only[bZ,cO,dd,go_sem,simprocAttr];cases y:aq t.marks.length 2 10
 .simp[bm,z,y,go_sem]
 refine zm ?_;refine aa (kR 0 10000 [_] true (by simp)) rfl ?_;simp only[bZ,cO,dd,go_sem,simprocAttr];cases F:aq t.error 0 10000
 .simp[bm,z,y,F,go_sem]
 have l:bm s.kinds.length t=if t.marks.all hI=true then(if f' (-1) t.marks=true then 2 else 0) else 7:=by simp only[bm,z,y,F,if_true]
 rw[l];have I:t.marks.length<=10:=by simp[aq]at y;omega
 refine zm ?_
 refine aG [30,31] t.marks (by omega) (τ:=Int×Bool) (λd_ rest q=>t.marks.all hI=rest.all hI/\f' (-1) t.marks=(q.2||f' q.1 rest))
  (λd_ q=>[(32,.p (.int .i64 d_.length)),(5,.p (.int .i64 q.1)),(6,.p (.bool q.2))]) (λ_ _=>[.row 3 [.p s.pv],.row 3 [.p t.pv]]) (-1,false) ⟨rfl,by simp⟩ ?_ ?_ ?_
 .simp only[go_sem,simprocAttr]<;>simp
 .rintro⟨j,e⟩ ⟨i,u⟩
  dsimp only at i u;rw[i,u];cases e
  .simp[ti,f',go_sem]
  .simp[ti,f',go_sem]
 .rintro d_ x r ⟨j,e⟩ G ⟨i,u⟩ hx C v
  dsimp only at i u;rw[List.all_cons]at i;refine zo C hx ?_;refine aa (kR 0 1000000 [_] true (by simp)) rfl ?_;simp only[bZ,cO,dd,go_sem,simprocAttr];cases A:aq x.minute 0 1000000
  .rw[i,hI,A];simp[go_sem]
  refine zm ?_;refine aa (kR 0 10000000 [_] true (by simp)) rfl ?_;simp only[bZ,cO,dd,go_sem,simprocAttr];cases E:aq x.weight 0 10000000
  .rw[i,hI,A,E];simp[go_sem]
  have D:hI x=true:=by rw[hI,A,E];rfl
  cases e
  .refine zm ?_;refine am G (x.minute,decide (x.minute<=j)) ⟨by rw[i,D];rfl,by rw[u,f'];rfl⟩ ?_;simp[v,go_sem]
  .refine zm ?_;refine am G (x.minute,true) ⟨by rw[i,D];rfl,by rw[u];rfl⟩ ?_;simp[v,go_sem]
def cR (nk:Int):List HrTest->Int
 |[]=>0
 |t::r=>if bm nk t=0 then cR nk r else bm nk t
def bO (s:HrShop) (l:List HrTest):Int:=if(hrCheck s).2.2=0 then cR s.kinds.length l else(hrCheck s).2.2
def gv{s}(h:(hrCheck s).2.2=0):s.kinds.length<=6/\s.rules.length<=6/\1<=s.kinds.length:=by
 unfold hrCheck at h;split at h
 .rename_i e;simp[aq]at e;omega
 .cases h
def qR(s)(l)(b)(z:(hrCheck s).2.2=0->l.length<1000000000):af TP 283 [s.pv,.slice 3 (l.map HrTest.pv) b] (.int .i64 (bO s l)):=by
 refine ae (ag func283 rfl) rfl (zm ?_);refine aa (Jm s) rfl ?_;simp only[ao,go_sem,simprocAttr];cases y:((hrCheck s).2.2 != 0)
 rotate_left
 .have e:¬(hrCheck s).2.2=0:=by simpa using y
  simp[bO,if_neg e,go_sem]
 have e:(hrCheck s).2.2=0:=by simpa using y
 have C:=(gv e).1;rw[bO,if_pos e];refine zm ?_
 refine aG [2,20,21] l (z e) (τ:=Unit) (λd_ rest _=>cR s.kinds.length l=cR s.kinds.length rest)
  (λd_ _=>[(22,.p (.int .i64 d_.length))]) (λ_ _=>[.row 3 [.p s.pv]]) () rfl ?_ ?_ ?_
 .simp only[go_sem,simprocAttr]<;>simp
 .intro _ j;rw[j];simp[cR,go_sem]
 .intro d_ x r _ A j hx u q;rw[cR]at j;refine zo u hx ?_;refine aa (F0 s x (by omega)) rfl (zm ?_);cases v:(bm s.kinds.length x != 0)
  .have i:bm s.kinds.length x=0:=by simpa using v
   refine zm ?_;refine am A () (by omega) ?_;simp[q,go_sem]
  .have i:¬bm s.kinds.length x=0:=by simpa using v
   simp[j,if_neg i,go_sem]
def KI{m}{r}(h:hI m=true):f' (-1) (m::r)=f' m.minute r:=by
 have:¬m.minute<=-1:=by simp[hI,aq]at h;omega
 simp[f',this]
def sQ(s:HrShop)(t)(U:s.kinds.length<=1000):af TP 262 [s.pv,t.pv] (.int .i64 (bm s.kinds.length t)):=by
 refine ae (ag func262 rfl) rfl ?_;have hw:i64.wrap ((s.kinds.length:Int)-1)=(s.kinds.length:Int)-1:=ah;refine zn hw ?_;refine aa (vb _ _ _) rfl (zm ?_);cases F:aq t.kind 0 ((s.kinds.length:Int)-1)
 .simp[bm,F,go_sem]
 refine zm ?_;refine aa (vb _ _ _) rfl (zm ?_);cases z:aq t.marks.length 2 10
 .simp[bm,F,z,go_sem]
 refine zm ?_;refine aa (vb _ _ _) rfl (zm ?_);cases R:aq t.error 0 10000
 .simp only[bm,F,z,R,go_sem,simprocAttr]
 have y:bm s.kinds.length t=if t.marks.all hI=true then(if f' (-1) t.marks=true then 2 else 0) else 7:=by simp only[bm,F,z,R,if_true]
 rw[y];have T:t.marks.length<=10:=by simp[aq]at z;omega
 have u:2<=t.marks.length:=by simp[aq]at z;omega
 simp only[go_sem,simprocAttr]
 refine aG [3] t.marks (by omega) (τ:=Unit) (λd_ rest _=>t.marks.all hI=rest.all hI)
  (λd_ _=>[(5,.p (.int .i64 d_.length))]) (λ_ _=>[.row 3 [.p s.pv],.row 3 [.p t.pv]]) () rfl ?_ ?_ ?_
 .simp only[go_sem,simprocAttr]<;>simp
 .intro _ j;rw[j,ti,if_pos rfl];simp only[go_sem,simprocAttr]
  cases l:t.marks with
  |nil=>grind
  |cons m0 M=>
   have L:hI m0=true:=by rw[l,ti,List.all_cons]at j;simp at j;exact j.1
   rw[KI L]
   refine dl [3] (σ:=List HrMark×HrMark×List HrMark) (λq=>t.marks=q.1++q.2.1::q.2.2/\f' m0.minute M=f' q.2.1.minute q.2.2) (λq=>q.2.2.length)
    (λq=>[(6,.p (.int .i64 (q.1.length+1:Nat)))]) (λ_=>[.row 3 [.p s.pv],.row 3 [.p t.pv]]) ([],m0,M) ⟨l,rfl⟩ ?_ ?_
   .simp only[<-l,go_sem,simprocAttr]<;>simp
   rintro⟨d_,m,r⟩ ⟨C,A⟩
   dsimp only at C A;have i:=congrArg List.length C;simp only[ak,bc]at i
   cases r with
   |nil=>
    have e:decide (((d_.length+1:Nat):Int)<(t.marks.length:Int))=false:=by simp at i |-;omega
    rw[A,f']
    simp only[<-l,e,go_sem,simprocAttr]
   |cons x r=>
    simp only[bc]at i;have e:decide (((d_.length+1:Nat):Int)<(t.marks.length:Int))=true:=by simp;omega
    have E:((d_.length+1:Nat):Int)<(t.marks.length:Int):=by omega
    have D:((d_.length:Nat):Int)<(t.marks.length:Int):=by omega
    have K:i64.wrap (((d_.length+1:Nat):Int)-1)=((d_.length:Nat):Int):=by rw[ah];omega
    have J:t.marks[d_.length+1]?=some x:=by rw[C];simp
    have I:t.marks[d_.length]?=some m:=by rw[C];simp
    have v:i64.wrap (((d_.length+1:Nat):Int)+1)=(((d_++[m]).length+1:Nat):Int):=aO (by omega) (by simp[ai];omega) (by simp);rw[f']at A;simp only[<-l,e,E,D,K,J,I,go_sem,simprocAttr];cases N:decide (x.minute<=m.minute)
    .simp only[go_sem,simprocAttr];refine aF (d_++[m],x,r) ⟨by rw[C];simp,by rw[A,N];rfl⟩ (dc _) ?_;simp only[v,go_sem,simprocAttr]
    .rw[A,N];simp[go_sem]
 .intro d_ x r _ S j hx e v;rw[List.all_cons]at j;refine zo e hx ?_;refine aa (vb _ _ _) rfl (zm ?_);cases G:aq x.minute 0 1000000
  .rw[j,hI,G];simp[go_sem]
  refine zo e hx ?_;refine aa (vb _ _ _) rfl (zm ?_);cases O:aq x.weight 0 10000000
  .rw[j,hI,G,O];simp[go_sem]
  have l:hI x=true:=by rw[hI,G,O];rfl
  refine zm ?_;refine am S () (by rw[j,l];rfl) ?_;simp[v,go_sem]
def Jd(s:HrShop)(t:HrTest):af TP 264 [s.pv,t.pv] (.int .i64 (bO s [t])):=by
 refine ae (ag func264 rfl) rfl (zm ?_);refine aa (rq s) rfl ?_;simp only[ao,go_sem,simprocAttr];cases i:((hrCheck s).2.2==0)
 .have e:¬(hrCheck s).2.2=0:=by simpa using i
  simp[bO,if_neg e,go_sem]
 have e:(hrCheck s).2.2=0:=by simpa using i
 have j:=(gv e).1;refine zm ?_;refine aa (sQ s t (by omega)) rfl ?_;simp only[bO,if_pos e,cR,go_sem,simprocAttr];simp
def bY (s:HrShop) (l:List HrTest):Int:=if(hrCheck s).2.2=0 then(if 8<l.length then 3 else cR s.kinds.length l) else(hrCheck s).2.2
def FW(s:HrShop)(l:List HrTest)(b:Bool):af TP 269 [s.pv,.slice 3 (l.map HrTest.pv) b] (.int .i64 (bY s l)):=by
 refine ae (ag func269 rfl) rfl (zm ?_);refine aa (rq s) rfl ?_;simp only[ao,go_sem,simprocAttr];have I:∀e:Int,(hrCheck s).2.2=e->e≠0->bY s l=e:=by
  intro e v G;rw[bY,v,if_neg G]
 cases E:((hrCheck s).2.2==0)
 .have i:(hrCheck s).2.2≠0:=by simpa using E
  rw[I _ rfl i];refine zm ?_;refine bw ?_;cases C:decide ((0:Int)<(l.length:Int))
  .simp only[C,go_sem,simprocAttr]
  .simp only[C,E,go_sem,simprocAttr]
 have i:(hrCheck s).2.2=0:=by simpa using E
 have K:=(gv i).1;have j:bY s l=(if 8<l.length then 3 else cR s.kinds.length l):=by rw[bY,if_pos i]
 refine zm ?_;cases J:decide ((8:Int)<(l.length:Int));rotate_left
 .have z:8<l.length:=by simp at J;omega
  rw[j,if_pos z];refine zm ?_;refine bw ?_;cases C:decide ((0:Int)<(l.length:Int))
  .simp only[C,go_sem,simprocAttr]
  .simp only[C,go_sem,simprocAttr]
 have z:¬8<l.length:=by simp at J;omega
 rw[j,if_neg z];refine zn i ?_
 refine dl [1,2] (σ:=List HrTest×List HrTest×Int) (λq=>l=q.1++q.2.1/\cR s.kinds.length l=(if q.2.2=0 then cR s.kinds.length q.2.1 else q.2.2)) (λq=>q.2.1.length)
  (λq=>[(7,.p (.int .i64 q.2.2)),(8,.p (.int .i64 q.1.length))]) (λ_=>[.row 3 [.p s.pv]]) ([],l,0) ⟨rfl,by simp⟩ ?_ ?_
 .simp only[go_sem,simprocAttr]<;>simp
 rintro⟨d_,rest,e⟩ ⟨D,A⟩
 dsimp only at D A
 cases rest with
 |nil=>
  have u:¬((d_.length:Int)<(l.length:Int)):=by rw[D];simp
  have v:cR s.kinds.length l=e:=by
   rw[A];split
   .grind[cR]
   .rfl
  simp[u,decide_false,v,go_sem]
 |cons x r=>
  obtain⟨hx,u⟩:=ca D;have F:i64.wrap ((d_.length:Int)+1)=(((d_++[x]).length:Nat):Int):=aO (by omega) (by grind[ai]) (by simp);cases v:(e==0)
  .have y:¬e=0:=by simpa using v
   rw[if_neg y]at A;simp[u,decide_true,v,A,go_sem]
  .have y:e=0:=by simpa using v
   rw[if_pos y,cR]at A;refine s_ u decide_true v hx ?_;refine aj (sQ s x (by omega)) rfl (zm ?_);refine aF (d_++[x],r,bm s.kinds.length x) ⟨by simp[D],by rw[A]⟩ (dc _) ?_;simp[F,go_sem]
variable {P:Program} {M0:Nat->Prop}
structure OnlyB (b:Nat) (w w':World):Prop where
 os:w'.os=w.os
 tape:w'.tape=w.tape
 output:w'.output=w.output
 size:w'.heap.size=w.heap.size
 block:∀k,k≠b->w'.heap[k]?=w.heap[k]?
def OnlyB.refl(b)(w):OnlyB b w w:=⟨rfl,rfl,rfl,rfl,λ_ _=>rfl⟩
def oT(w)(b i)(v):OnlyB b w (w.setCell ⟨b,i,none⟩ v):=
 ⟨rfl,rfl,rfl,by simp,λk e=>Go.RowKit.Below.heap_setCell _ _ _ _ e⟩
def Do{S}(A:HOk P M0 S){i b}{T e}{x x'}{p p' v v'}{w'}(F:S.h[i]?=some (.bld T e x))(K:S.m.getD i none=some b)
  (V:S.w.heap[b]?=some (.cells #[p,v] T (0,0))) (hw:OnlyB b S.w w') (G:w'.heap[b]?=some (.cells #[p',v'] T (0,0))) (R:p'=.pointer none\/p'=.pointer (some ⟨b,0,none⟩))
  (hx:x'=.p .nilslice\/∃j n,x'=.slice j n 0 n) (L:dw M0 S v' x') (O:∀a n c,v'=.slice (some a) n c->∃N,S.w.shape? a.block=some (e,N)) :
  HOk P M0 ⟨S.m,S.h.set i (.bld T e x'),w'⟩/\Ev S.h.length S ⟨S.m,S.h.set i (.bld T e x'),w'⟩:=by
 have z:=(aC.1 F).1;have I:Own S.m b:=aB (cI K);have E:∀c,w'.shape? c=S.w.shape? c:=by
  intro c;by_cases J:c=b
  .subst J;simp[World.shape?,V,G]
  .simp only[World.shape?,hw.block c J]
 have C:Ev S.h.length S ⟨S.m,S.h.set i (.bld T e x'),w'⟩:=
  {fr:=⟨hw.os,hw.tape,hw.output,GP hw.size.symm,λc _ U=>hw.block c (λh=>U (h▸I)),λc _=>E c⟩
   sub:=λc h=>.inl h
   obj:=λy D Y u=>by
    by_cases q:y=i
    .subst q;rw[F]at u;cases u;exact⟨.bld T e x',by simp[z],.inr (.inr ⟨by simp[AObj.tag],rfl,rfl⟩)⟩
    .exact⟨D,by grind,ObjEv.refl _ _⟩ }
 refine⟨?_,C⟩
 exact
  {len:=by simpa using A.len
   lt:=λc h=>iy (A.lt c h) C.fr.size
   m0:=λc h=>⟨iy (A.m0 c h).1 C.fr.size,(A.m0 c h).2⟩
   inj:=A.inj
   gl:=C.glob A.gl
   obj:=λy D u=>by
    by_cases q:y=i
    .subst q;have l:(S.h.set y (.bld T e x'))[y]?=some D:=u;rw[jp z]at l;cases l;exact⟨b,p',v',K,G,R,hx,C.rep0 L (iO L),λa n c M=>let ⟨N,X⟩:=O a n c M;⟨N,(E _).trans X⟩⟩
    .have l:(S.h.set i (.bld T e x'))[y]?=some D:=u;rw[eS (Ne.symm q)]at l;refine(A.obj y D l).keep C λc J=>hw.block c λh=>q ?_;subst h
     exact A.inj y i c (cI J) (cI K) }
def qD{h:Heap}{i}{o}(e:h[i]?=some o):h.set i o=h:=kU e
def JH{S}(hS:HOk P M0 S){T U e ty}{x}{v v2}{s}{L}(hx:x=.p .nilslice\/∃j n xs,x=.slice j n 0 n/\S.h[j]?=some (.row 1 xs)/\xs.length=n/\n+s.size<=ai)
  (b2:s.size<=ai) (hr:dw M0 S v x) (hT:bM P T=some e) (hU:fW P U=true) (E:du P e=some 1) (a7:rZ P e=some 1) (hz:pw P e 1=true)
  (a4:∀a n c,v=.slice (some a) n c->∃N,S.w.shape? a.block=some (e,N)) (i:(Builtin.append_ #[T,U] ty #[v,.string s]).run P S.w=.ok v2 L) (a6:∀b,b<S.w.heap.size->L.shape? b=S.w.shape? b) :
  ∀a n c,v2=.slice (some a) n c->∃N,L.shape? a.block=some (e,N):=by
 have I:=di hT;have G:(∃f,P.underlying U=some (.slice f))\/P.underlying U=some .string:=.inr (gM hU);have a0:Rep M0 S (.string s) (.p (.str s)):=RepP.str s;obtain⟨D,z,hD,J,a1⟩:=n9 (P:=P) hS (y:=.p (.str s)) (sz:=1) (ys:=s.data.toList.map λb:UInt8=>AV.p (PV.int .u8 (b.toNat:Int))) a0 (by rfl);have X:(s.data.toList.map λb:UInt8=>AV.p (PV.int .u8 (b.toNat:Int))).length=s.size:=by rw[dQ];exact AZ
 rw[X]at z hD J
 have V:∀(base:Option Addr) (n cap:Nat) (O:Array Value),n+s.size<=ai->cap<n+s.size->v=.slice base n cap->(Builtin.firstCells 1 n (.slice base n cap)).run P S.w.drew=.ok O S.w.drew ->
   ∀a n c,v2=.slice (some a) n c->∃N,L.shape? a.block=some (e,N):=by
  intro base n cap O q F K hO a n' c A;subst K;obtain⟨nc,R,b3,hR,l⟩:=mY (ty:=ty) I G E a7 (by omega) hz q F S.w z hO (hD _ rfl);rw[l]at i;cases i;cases A;refine⟨(O++D++R).size,?_⟩;show (S.w.drew.alloc _).shape? S.w.drew.heap.size=_;unfold World.shape?;rw[cg]
 have nil:v=.slice none 0 0->∀a n c,v2=.slice (some a) n c->∃N,L.shape? a.block=some (e,N):=by
  intro K;rcases q9 s.size with M|M
  .subst K;intro a n c A;have:=nX (ty:=ty) I G E S.w (by rw[z,M]) (by have:=hD S.w rfl;rw[M]at this;exact this);grind
  .exact V none 0 0 #[] (by omega) (by omega) K rfl
 rcases hx with rfl|⟨j,n,xs,rfl,hj,hn,q⟩
 .have h':RepP (Avoid M0 S.m) S.w v .nilslice:=hr;cases h';exact nil rfl
 .obtain⟨O,b4,hO,b5,b1⟩:=n9 (P:=P) (y:=.slice j n 0 n) (v:=v) (ys:=xs) (sz:=1) hS hr (by simp[mn,hj,hn,sub,dt (GP hn)]);rcases dM hr.2 hj hn with⟨h1,h2,h3,_⟩|⟨b,cap,T',N,hm,rfl,b0,u,a8,a3⟩|⟨_,rfl,M⟩
  .omega
  .rcases dO cap (n+s.size) with F|a5
   .have:=hO S.w.drew rfl;grind
   .obtain⟨C,T2,Y,a2,a9⟩:=gK hS hj hm;have b6:N=C.size:=by
     unfold World.shape? at u;rw[Y]at u;simp at u;exact u.2.symm
    have l:=pR (ty:=ty) (cap:=cap) I G E a5 S.w z (hD _ rfl) (by simpa using Y) (by rw[J];omega) (rT X (by rw[J]) a1);grind
  grind
variable {P:Program} {H:Hints} {Q:Cont}
def OD (P:Program) (fv:PV) (n:Nat) (l:List (List PV)):Prop:=
 (∀a,a∈l->a.length=n)/\∃(g:FuncId) (first cap:List PV),fv=.func (.func g) first cap/\∀(id:Nat) (Inv:Nat->Heap->Prop) (Fin:Heap->Prop) (h0:Heap),id<h0.length ->
  (∀(k:Nat) (xs:List PV) (lo mid:Heap),l[k]?=some xs->Inv k lo->lo.length=h0.length ->
   ve P id (xs.map .p) (lo++mid) (λr h'=>∃lo' ext,h'=lo'++mid++ext/\lo'.length=h0.length /\
    ((r=.ret (.p (.bool true))/\Inv (k+1) lo')\/(r=.ret (.p (.bool false))/\Fin lo')))) ->
  Inv 0 h0->aw P g (first.map .p++[.ref .yl id]++cap.map .p) h0 (λr h'=>r=.ret (.p (.tuple []))/\∃lo mid,h'=lo++mid/\lo.length=h0.length/\(Inv l.length lo\/Fin lo))
def Mh{ps}{assign body}{g}{A}{fv}{l}(Inv:AObj->Nat->Heap->Prop)(E:Code->Heap->Prop)
  (a1:A.rc=.no) (hg:A.eval g=.p fv) (a4:OD P fv ps.size l) (hD:eV P) (a2:qH A.n ps=true) (Y:dV H A.n assign=true) (X:dV H A.n body=true)
  (V:∀o k h,Inv o k h->h[A.h.length+1]?=some o) (h0:∀o,Inv o 0 (A.h++[.dblock,o]))
  (F:∀(z oB) (oD) (k) (xs) (lo i),l[k]?=some xs->Inv z k lo->lo.length=A.h.length+2 ->
   @W ⟨P,H,assign,vK z oB (A.h.length+1) (lo++i).length (λB=>wp P H body (rF oB z oD (A.h.length+1) (lo++i).length
    (λr h'=>∃q ext,h'=q++i++ext/\q.length=A.h.length+2/\((r=.ret (.p (.bool true))/\Inv z (k+1) q)\/(r=.ret (.p (.bool false))/\∃c,E c q/\q[A.h.length+1]?=some (oD c))))) B)⟩
    {n:=A.n,bs:=(lo++i).length,rc:=.rnd,tmps:=iX A.tmps ps.toList (xs.map .p),h:=lo++i,df:=[] })
  (a0:∀o lo i,Inv o l.length lo->lo.length=A.h.length+2->@WQ ⟨Q⟩ .normal { A with h:=(lo++i).set (A.h.length+1) .dead,df:=.collected A.h.length::A.df })
  (Z:∀c lo i,E c lo->lo.length=A.h.length+2->yF Q { A with h:=(lo++i).set (A.h.length+1) .dead,df:=.collected A.h.length::A.df } c):@W ⟨P,H,.rangeFunc g ps assign body,Q⟩ A:=by
 obtain⟨hn,gf,first,cap,rfl,hi⟩:=a4;have a3:∃z,z=AObj.loop A.n A.tmps ps assign body .ready none:=⟨_,rfl⟩
 obtain⟨z,M⟩:=a3
 refine Ae (f:=gf) (args:=first.map .p++[.ref .yl (A.h.length+1)]++cap.map .p)
  (R:=λr h=>r=.ret (.p (.tuple []))/\∃lo i,h=lo++i/\lo.length=A.h.length+2/\(Inv z l.length lo\/∃c,E c lo/\lo[A.h.length+1]?=some (.loop A.n A.tmps ps assign body .done (some c))))
  a1 (by rw[hg];rfl) ?_ (λv h hr=>?_) λv h hr=>(by cases hr.1)
 .rw[<-M];have U:(A.h++[.dblock,z]).length=A.h.length+2:=by simp
  have T:=hi (A.h.length+1) (Inv z) (λlo=>∃c,E c lo/\lo[A.h.length+1]?=some (.loop A.n A.tmps ps assign body .done (some c))) (A.h++[.dblock,z]) (by simp) (λk xs lo i hv I D=>?_) (h0 z)
  .grind
  rw[U]at D |-;have y:=V _ _ _ I;have G:(lo++i)[A.h.length+1]?=some z:=by rw[bJ (by omega)];exact y
  rw[M]at G;refine sK hD (H:=H) G a2 (by grind) Y X ?_;have:=F z (.loop A.n A.tmps ps assign body .busy none) (λj=>.loop A.n A.tmps ps assign body .done (some j)) k xs lo i hv I D;refine ll assign (λe B hB=>?_) this
  cases e with
  |normal=>
   obtain⟨b1,b2,b3⟩:=hB;rw[M]at b2;refine⟨b1,b2,ll body (λe C hC=>?_) b3⟩
   cases e with
   |normal=>
    obtain⟨c1,S,J⟩:=hC;grind[vj]
   |exit id=>
    obtain⟨c1,S,J⟩:=hC;grind[vj]
   |ret=>
    obtain⟨c1,S,J⟩:=hC;grind[vj]
   |panic v=>
    obtain⟨_,_,J⟩:=hC;grind
  |exit id=>exact hB
  |ret=>exact hB
  |panic v=>exact hB
 .obtain⟨hr,lo,i,rfl,D,I⟩:=hr;rcases I with I|⟨c,O,N⟩
  .have y:(lo++i)[A.h.length+1]?=some z:=by rw[bJ (by omega)];exact V _ _ _ I
   rw[M]at y;rw[y];exact⟨by simp,a0 _ _ _ I D⟩
  .have y:(lo++i)[A.h.length+1]?=some (.loop A.n A.tmps ps assign body .done (some c)):=by rw[bJ (by omega)];exact N
   rw[y];have:=Z c lo i O D;refine⟨by simp,?_⟩;cases c<;>first|exact this.elim|exact this
def mz{lo:Heap}{e}(h:lo.length=e)(t)(j):(lo++t)[e+j]?=t[j]?:=by grind
def mA{lo:Heap}{e}(h:lo.length=e)(t):(lo++t)[e]?=t[0]?:=mz h t 0
def oF{lo:Heap}{e}(h:lo.length=e)(t)(j)(x):(lo++t).set (e+j) x=lo++t.set j x:=by
 grind
def oG{lo:Heap}{e}(h:lo.length=e)(t)(x):(lo++t).set e x=lo++t.set 0 x:=oF h t 0 x
end Abs
end Go.Proofs.YtgafommgcfhkkaaGreatDoor
