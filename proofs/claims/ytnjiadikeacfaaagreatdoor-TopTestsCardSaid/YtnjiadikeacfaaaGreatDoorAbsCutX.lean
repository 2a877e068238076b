/- CONTRACTS of the program's functions, and laws on what they return. No conditions but those in the theorems' heads. -/
import Derived.Test.YtnjiadikeacfaaaGreatDoorAbsKill
import Derived.Test.YtnjiadikeacfaaaGreatDoorSeatTy
import Derived.Test.YtnjiadikeacfaaaGreatDoorTie
import Derived.LaidLaws
import Derived.LaidSub
import Derived.LaidMore
import Derived.Lay
import Derived.MakeChecks
set_option linter.all false
open Go.Proofs.Tryz renaming prog->TP
namespace Go.Proofs.YtnjiadikeacfaaaGreatDoor
namespace Abs
variable {P:Program} {M0:Nat->Prop}
theorem GT{f}{args}{h}{R}(k:(∀o,o∈h->bf h.length o)->aB P f args h R):aB P f args h R:=by
 intro M0 m w cargs hS hargs;refine k (λo ho=>?_) M0 m w cargs hS hargs;obtain⟨i,hi⟩:=dz ho;exact Cr (S:=⟨m,h,w⟩) hS hi
def A0:AEnd->Prop
 |.ret (.p _)=>True
 |.panic _=>True
 |_=>False
theorem z6(hD:dK P){H}{f}{fn}{c}{args}{h}{R}{rs}{n}(hf:P.funcs[f]?=some fn)(hb:fn.body=some c)(hrs:fn.results.toList=rs)(hn:fn.ntmps=n)(hok:cv H fn=true)
  (hlen:args.length<=n) (hw:wp P H c (iB P rs h.length (λ_ r h''=>∃h' t,h''=h'++t/\h'.length=h.length/\(∀o,o∈h'->bf h'.length o)/\A0 r/\R r h')) (aW n .no args h)):aB P f args h R:=by
 intro M0 m w cargs hS hargs;have:=jm hD (R:=λr h''=>∃h' t,h''=h'++t/\h'.length=h.length/\(∀o,o∈h'->bf h'.length o)/\A0 r/\R r h') hf hb hrs hn hok hlen hw M0 m w cargs hS hargs;refine⟨this.1,this.2.mono λe w' hh=>?_⟩;obtain⟨r,h'',m',⟨h',t,rfl,hl,hbel,hp,hR⟩,hev,hk,hend⟩:=hh;have hkeep:∀(id:Nat) (o:AObj),id<h'.length->(h'++t)[id]?=some o->bf h'.length o:=λid o hid ho=>by
  rw[aZ hid]at ho;exact hbel o (aT ho)
 have hcut:=Bc (S:=⟨m',h'++t,w'⟩) hk (l:=h'.length) hkeep;have ecut:Mem.cut ⟨m',h'++t,w'⟩ h'.length=⟨m'.take h'.length,h',w'⟩:=by simp[Mem.cut]
 rw[ecut]at hcut;have hav:∀b,Avoid M0 (m'.take h'.length) b->Avoid M0 m' b:=λb hb=>by
  rcases hb with hb|hb
  .exact .inl hb
  .exact .inr (sb hb)
 refine⟨r,h',m'.take h'.length,hR,⟨hev.fr,λb hb=>hev.sub b (sb hb),λid o hid ho=>?_⟩,hcut,?_⟩
 .have hid':id<h'.length:=by rw[hl];exact hid
  obtain⟨o',h1,h2⟩:=hev.obj id o hid ho;refine⟨o',?_,?_⟩
  .have h1':(h'++t)[id]?=some o':=h1;rw[aZ hid']at h1';exact h1'
  .have:(m'.take h'.length).getD id none=m'.getD id none:=by
    rw[cG,cG,jp,if_pos hid']
   show ObjEv _ _ ((m'.take h'.length).getD id none) _;rw[this];exact h2
 .cases e with
  |returned v'=>
   cases r with
   |panic v=>exact hend.elim
   |ret a=>
    cases a<;>first|exact hp.elim|skip
    rename_i v
    exact RepP.less (show RepP (Avoid M0 m') w' v' v from hend) hav
  |panicked ch=>
   cases r with
   |ret a=>exact hend.elim
   |panic v=>
    obtain⟨v',h1,h2⟩:=hend
    exact⟨v',h1,RepP.less (show RepP (Avoid M0 m') w' v' v from h2) hav⟩
  |outgrown=>exact hend.elim
theorem cy{n m}(h:n<=m):∀{a},dO n a->dO m a:=by
 intro a;cases a<;>simp only[dO]<;>first|exact id|omega
theorem CP{n m}(h:n<=m){a}(k:eU n a):eU m a:=by
 cases a with
 |func fn first cap=>exact⟨λc hc=>cy h (k.1 c hc),λc hc=>cy h (k.2 c hc)⟩
 |p v=>exact trivial
 |ptr id ver i o=>exact cy (a:=.ptr id ver i o) h k
 |slice id ver i o=>exact cy (a:=.slice id ver i o) h k
 |agg cs=>exact cy (a:=.agg cs) h k
 |tuple cs=>exact cy (a:=.tuple cs) h k
 |ref q id=>exact cy (a:=.ref q id) h k
 |undef=>exact cy (a:=.undef) h k
theorem MO{n m}(h:n<=m){a}(k:fV n a):fV m a:=by
 cases a with
 |agg cs=>exact λc hc=>CP h (k c hc)
 |func fn first cap=>exact⟨λc hc=>cy h (k.1 c hc),λc hc=>cy h (k.2 c hc)⟩
 |p v=>exact trivial
 |ptr id ver i o=>exact cy (a:=.ptr id ver i o) h k
 |slice id ver i o=>exact cy (a:=.slice id ver i o) h k
 |tuple cs=>exact cy (a:=.tuple cs) h k
 |ref q id=>exact cy (a:=.ref q id) h k
 |undef=>exact cy (a:=.undef) h k
theorem FR{n m}(h:n<=m){a}(k:below n a):below m a:=by
 cases a with
 |tuple cs=>exact λc hc=>MO h (k c hc)
 |agg cs=>exact λc hc=>CP h (k c hc)
 |func fn first cap=>exact⟨λc hc=>cy h (k.1 c hc),λc hc=>cy h (k.2 c hc)⟩
 |p v=>exact trivial
 |ptr id ver i o=>exact cy (a:=.ptr id ver i o) h k
 |slice id ver i o=>exact cy (a:=.slice id ver i o) h k
 |ref q id=>exact cy (a:=.ref q id) h k
 |undef=>exact cy (a:=.undef) h k
theorem GI{n m}(h:n<=m){o}(k:bf n o):bf m o:=by
 cases o with
 |row sz xs=>exact λx hx=>FR h (k x hx)
 |loop n tmps ps assign body st pend=>exact λt=>FR h (k t)
 |bld T e x=>exact cy h k
 |_=>exact trivial
end Abs
end Go.Proofs.YtnjiadikeacfaaaGreatDoor
namespace Go.Proofs.YtnjiadikeacfaaaGreatDoor
namespace Abs
variable {fn:Func} {nm og:String} {ta ps rt:Array TypeId} {nf n el:Nat} {rs:List ResultVar} {c:Code} {nr ou:Bool} {fl:String} {ln:Option Nat} {mt:List Departure} {tn:Array String} {H:Hints} {f:FuncId} {pargs:List PV} {args:List AV} {h:Heap}
abbrev rv (H:Hints) (f:FuncId) (fn:Func) (n:Nat) (rs:List ResultVar) (c:Code):Prop:=TP.funcs[f]?=some fn/\fn.body=some c/\fn.results.toList=rs/\fn.ntmps=n/\cv H fn=true
theorem eA(hf:TP.funcs[f]?=some fn)(he:fn=⟨nm,og,ta,ps,rt,nf,n,⟨rs⟩,some c,nr,ou,fl,el,ln,mt,tn⟩)(hok:cv H fn=true):rv H f fn n rs c:=by
 subst he;exact⟨hf,rfl,rfl,rfl,hok⟩
theorem ah(hf:TP.funcs[f]?=some fn)(he:fn=⟨nm,og,ta,ps,rt,nf,n,⟨rs⟩,some c,nr,ou,fl,el,ln,mt,tn⟩)(hok:cv H0 fn=true):rv H0 f fn n rs c:=eA hf he hok
theorem Eu{v:PV}(k:rv H f fn n rs c)(hl:Nat.ble pargs.length n=true)(hw:SW TP H c (iB TP rs 0 (λ_ r _=>r=.ret (.p v))) (aW n .no (pargs.map .p) [])):af TP f pargs v:=
 let ⟨a,b,d,e,g⟩:=k;xt dC a b d e g (om hl) hw
theorem aa{v:PV}(k:rv H f fn n rs c)(hl:Nat.ble pargs.length n=true)(hw:wp TP H c (iB TP rs 0 (λ_ r _=>r=.ret (.p v))) (aW n .no (pargs.map .p) [])):af TP f pargs v:=
 let ⟨a,b,d,e,g⟩:=k;GF dC a b d e g (om hl) hw
theorem dd{v:PV}(k:rv H f fn n rs c)(hl:Nat.ble pargs.length n=true)(hw:wp TP H c (iB TP rs 0 (λ_ r h=>pF h r=some v)) (aW n .no (pargs.map .p) [])):af TP f pargs v:=
 let ⟨a,b,d,e,g⟩:=k;zw dC a b d e g (om hl) hw
theorem eB{v:PV}(k:rv H f fn n rs c)(hl:Nat.ble pargs.length n=true)(hw:wp TP H c (iB TP rs 0 (λ_ r h=>∃q,pF h r=some q/\rp q v)) (aW n .no (pargs.map .p) [])):af TP f pargs v:=
 let ⟨a,b,d,e,g⟩:=k;ym dC a b d e g (om hl) hw
theorem fO{v:PV}(k:rv H f fn n rs c)(hl:Nat.ble pargs.length n=true)(hw:wp TP H c (iB TP rs 0 (λ_ r h=>DE h r=some v)) (aW n .no (pargs.map .p) [])):gZ TP f pargs v:=
 let ⟨a,b,d,e,g⟩:=k;Ew dC a b d e g (om hl) hw
theorem aA{R:AEnd->Heap->Prop}(k:rv H f fn n rs c)(hl:Nat.ble args.length n=true)(hw:wp TP H c (iB TP rs h.length (λ_=>R)) (aW n .no args h)):aB TP f args h R:=
 let ⟨a,b,d,e,g⟩:=k;jm dC a b d e g (om hl) hw
theorem fF{u:AMode}{R:AEnd->AMode->Heap->Prop}(k:rv H f fn n rs c)(hl:Nat.ble args.length n=true)(hw:wp TP H c (iB TP rs h.length (λrc r h'=>R r (iv u rc) h')) (aW n (mZ u) args h)):ju TP f args u h R:=
 let ⟨a,b,d,e,g⟩:=k;GW dC a b d e g (om hl) hw
theorem oZ{v:PV}(k:rv H f fn n rs c)(hl:Nat.ble args.length n=true)(hw:wp TP H c (iB TP rs h.length (λ_ r h'=>∃t,h'=h++t/\pF (List.replicate h.length .dead++t) r=some v)) (aW n .no args h)):aB TP f args h (λr h'=>r=.ret (.p v)/\h'=h):=
 let ⟨a,b,d,e,g⟩:=k;xj dC a b d e g (om hl) hw
theorem bK{R:AEnd->Heap->Prop}(k:rv H f fn n rs c)(hl:Nat.ble args.length n=true)(hw:wp TP H c (iB TP rs h.length (λ_ r h''=>∃h' t,h''=h'++t/\h'.length=h.length/\(∀o,o∈h'->bf h'.length o)/\A0 r/\R r h')) (aW n .no args h)):aB TP f args h R:=
 let ⟨a,b,d,e,g⟩:=k;z6 dC a b d e g (om hl) hw
end Abs
end Go.Proofs.YtnjiadikeacfaaaGreatDoor
namespace Go.Proofs.YtnjiadikeacfaaaGreatDoor
open Go.ChangeShapes Go.WideShapes Go.ChangeAt Go.RowKit
namespace Abs
set_option maxRecDepth 100000
theorem Vc:ownKnob TP.godebug=none:=by kernel_rfl
theorem laid:laidOutB TP=true:=by kernel_rfl
def Pz (t:TypeId):Prop:=uM TP 8 t=true/\TP.readableRec t=true/\t<TP.types.size
theorem Vg:Pz 41:=⟨by kernel_rfl,by kernel_rfl,of_decide_eq_true (by kernel_rfl)⟩
theorem Vf:Pz 42:=⟨by kernel_rfl,by kernel_rfl,of_decide_eq_true (by kernel_rfl)⟩
theorem Ve:Pz 43:=⟨by kernel_rfl,by kernel_rfl,of_decide_eq_true (by kernel_rfl)⟩
def ao:List (String×DataW Unit):=Rows.topTestsRow.laid
theorem plain:∀W,laidMetH TP ao W->laidMet TP ao W:=λW h=>by
 rw[MakeChecks.laidMetH_plain _ _ _ (by kernel_rfl)]at h;exact h
theorem Vx:ao.filter (λx=>x.1 == "internal/strconv.uint64pow10")=[("internal/strconv.uint64pow10", Lib.tabData .u64 Lib.pow10Tab)]:=by rfl
theorem Vw:ao.filter (λx=>x.1 == "strconv.ErrSyntax")=[("strconv.ErrSyntax", Rows.laid_strconv_ErrSyntax)]:=by rfl
theorem Vv:ao.filter (λx=>x.1 == "strconv.ErrRange")=[("strconv.ErrRange", Rows.laid_strconv_ErrRange)]:=by rfl
theorem X6:∃ms,TP.underlying 114=some (.interface ms):=⟨_,rfl⟩
theorem zp{W:World}{name nm:String}{d:DataW Unit}{g:Nat}(hg:TP.globalNamed name=some g)(ht:(TP.globals[g]?).map (·.type)=some 114)
  (h:laidMet TP [(name,.iface nm d)] W):∃tp p,W.var? TP name=some #[.iface tp p]:=by
 obtain⟨ps,⟨g',t',cs,fuel,p,q,hg',ht',hvar,hd,_,_⟩,_⟩:=h;obtain rfl:=lY (hg.symm.trans hg');obtain rfl:=lY (ht.symm.trans ht');obtain⟨ms,hms⟩:=X6;obtain⟨f1,u,v,hcs,_,_⟩:=iface_of_trod hms hd;refine⟨u,v,?_⟩;rw[hvar]
 congr 1
 apply Array.ext';simpa using hcs
theorem Ys{W:World}(h0:laidMetH TP ao W):uQ TP W:=by
 have h:=plain W h0;refine⟨λb hb=>?_,λb hb=>?_,λb hb=>?_⟩
 .have:=h.filter (λx=>x.1 == "internal/strconv.uint64pow10");rw[Vx]at this;exact Lib.tabIs_of_head (g:=5) (t:=360) (e:=293) (n:=20) (by kernel_rfl) (by kernel_rfl) (by kernel_rfl) (by kernel_rfl) (by kernel_rfl) (by kernel_rfl) this
 .have:=h.filter (λx=>x.1 == "strconv.ErrSyntax");rw[Vw]at this;exact zp (g:=1) (by kernel_rfl) (by kernel_rfl) this
 .have:=h.filter (λx=>x.1 == "strconv.ErrRange");rw[Vv]at this;exact zp (g:=2) (by kernel_rfl) (by kernel_rfl) this
structure Span where
 lo:Int
 hi:Int
def aG (n:Int):PV:=.int .i64 n
def Span.pv (s:Span):PV:=.agg [.int .i64 s.lo,.int .i64 s.hi]
attribute [go_sem] aG Span.pv
structure HrKind where
 name:ByteArray
 weight:Span
 rest:Int
structure HrRule where
 name:ByteArray
 minutes:Span
 weight:Span
structure HrMark where
 minute:Int
 weight:Int
 deriving DecidableEq
structure HrTest where
 kind:Int
 error:Int
 marks:List HrMark
structure HrShop where
 kinds:List HrKind
 rules:List HrRule
 margin:Int
structure HrBox where
 kind:Int
 hours:Int
def HrKind.pv (k:HrKind):PV:=.agg [.str k.name,.int .i64 k.weight.lo,.int .i64 k.weight.hi,.int .i64 k.rest]
def HrRule.pv (r:HrRule):PV:=.agg [.str r.name,.int .i64 r.minutes.lo,.int .i64 r.minutes.hi,.int .i64 r.weight.lo,.int .i64 r.weight.hi]
def HrMark.pv (m:HrMark):PV:=.agg [.int .i64 m.minute,.int .i64 m.weight]
def HrTest.pv (t:HrTest):PV:=.agg [.int .i64 t.kind,.int .i64 t.error,.slice 2 (t.marks.map HrMark.pv) false]
def HrShop.pv (s:HrShop):PV:=.agg [.slice 4 (s.kinds.map HrKind.pv) false,.slice 5 (s.rules.map HrRule.pv) false,.int .i64 s.margin]
def HrBox.pv (b:HrBox):PV:=.agg [.int .i64 b.kind,.int .i64 b.hours]
attribute [go_sem] HrKind.pv HrRule.pv HrMark.pv HrTest.pv HrShop.pv HrBox.pv
structure Wick where
 name:ByteArray
 threads:Int
 pull:Span
structure Wax where
 name:ByteArray
 flow:Span
 rise:Span
 spread:Span
 chill:Int
structure Shop where
 wicks:List Wick
 waxes:List Wax
 flame:Span
 pool:Span
structure Candle where
 wax:Int
 diameter:Int
 draught:Int
 cold:Span
structure Truth where
 pull:Int
 flow:Int
 rise:Int
 spread:Int
 draught:Int
 cold:Int
structure Burn where
 rate:Int
 flame:Int
 pool:Int
def Wick.pv (x:Wick):PV:=.agg [.str x.name,.int .i64 x.threads,.int .i64 x.pull.lo,.int .i64 x.pull.hi]
def Wax.pv (x:Wax):PV:=.agg [.str x.name,.int .i64 x.flow.lo,.int .i64 x.flow.hi,.int .i64 x.rise.lo,.int .i64 x.rise.hi,.int .i64 x.spread.lo,.int .i64 x.spread.hi,.int .i64 x.chill]
def Shop.pv (s:Shop):PV:=.agg [.slice 4 (s.wicks.map Wick.pv) false,.slice 8 (s.waxes.map Wax.pv) false,.int .i64 s.flame.lo,.int .i64 s.flame.hi,.int .i64 s.pool.lo,.int .i64 s.pool.hi]
def Candle.pv (c:Candle):PV:=.agg [.int .i64 c.wax,.int .i64 c.diameter,.int .i64 c.draught,.int .i64 c.cold.lo,.int .i64 c.cold.hi]
def Truth.pv (t:Truth):PV:=.agg [.int .i64 t.pull,.int .i64 t.flow,.int .i64 t.rise,.int .i64 t.spread,.int .i64 t.draught,.int .i64 t.cold]
def Burn.pv (b:Burn):PV:=.agg [.int .i64 b.rate,.int .i64 b.flame,.int .i64 b.pool]
attribute [go_sem] Wick.pv Wax.pv Shop.pv Candle.pv Truth.pv Burn.pv
structure BdPoint where
 parts:Int
 add:Int
structure BdWax where
 name:ByteArray
 price:Int
 melt:Span
 shrink:Span
 curve:List BdPoint
structure BdWish where
 parts:List Span
 melt:Span
 shrink:Span
structure BdLot where
 melt:Int
 shrink:Int
def BdPoint.pv (p:BdPoint):PV:=.agg [.int .i64 p.parts,.int .i64 p.add]
def BdWax.pv (x:BdWax):PV:=.agg [.str x.name,.int .i64 x.price,.int .i64 x.melt.lo,.int .i64 x.melt.hi,.int .i64 x.shrink.lo,.int .i64 x.shrink.hi,.slice 2 (x.curve.map BdPoint.pv) false]
def BdWish.pv (w:BdWish):PV:=.agg [.slice 2 (w.parts.map Span.pv) false,.int .i64 w.melt.lo,.int .i64 w.melt.hi,.int .i64 w.shrink.lo,.int .i64 w.shrink.hi]
def BdLot.pv (x:BdLot):PV:=.agg [.int .i64 x.melt,.int .i64 x.shrink]
def fM (l:List BdWax):PV:=.slice 7 (l.map BdWax.pv) false
def X3 (l:List Int):PV:=.slice 1 (l.map aG) false
def UB (l:List BdLot):PV:=.slice 2 (l.map BdLot.pv) false
attribute [go_sem] BdPoint.pv BdWax.pv BdWish.pv BdLot.pv fM X3 UB
structure WxProp where
 name:ByteArray
 error:Int
structure WxKind where
 name:ByteArray
 props:List Span
structure WxTable where
 props:List WxProp
 kinds:List WxKind
 purity:Int
def WxProp.pv (p:WxProp):PV:=.agg [.str p.name,.int .i64 p.error]
def WxKind.pv (k:WxKind):PV:=.agg [.str k.name,.slice 2 (k.props.map Span.pv) false]
def WxTable.pv (t:WxTable):PV:=.agg [.slice 2 (t.props.map WxProp.pv) false,.slice 2 (t.kinds.map WxKind.pv) false,.int .i64 t.purity]
attribute [go_sem] WxProp.pv WxKind.pv WxTable.pv
structure ClColour where
 name:ByteArray
 stay:Span
 shows:List Int
structure ClShop where
 colours:List ClColour
 keep:Span
 rinse:Int
structure ClBatch where
 colour:Int
 grams:Int
def ClColour.pv (c:ClColour):PV:=.agg [.str c.name,.int .i64 c.stay.lo,.int .i64 c.stay.hi,.slice 1 (c.shows.map aG) false]
def ClShop.pv (s:ClShop):PV:=.agg [.slice 4 (s.colours.map ClColour.pv) false,.int .i64 s.keep.lo,.int .i64 s.keep.hi,.int .i64 s.rinse]
def ClBatch.pv (b:ClBatch):PV:=.agg [.int .i64 b.colour,.int .i64 b.grams]
attribute [go_sem] ClColour.pv ClShop.pv ClBatch.pv
structure ChShop where
 wax:WxTable
 blend:List BdWax
 wick:Shop
 hour:HrShop
 colour:ClShop
structure ChLot where
 name:ByteArray
 kind:Int
 grams:Int
 readings:List Int
structure ChBatch where
 name:ByteArray
 colour:Int
 lot:Int
 grams:Int
structure ChBooks where
 lots:List ChLot
 batches:List ChBatch
 tests:List HrTest
 boxes:List HrBox
 poured:Int
 lost:Int
def ChShop.cells (s:ChShop):List PV:=
 [.slice 2 (s.wax.props.map WxProp.pv) false,.slice 2 (s.wax.kinds.map WxKind.pv) false,.int .i64 s.wax.purity,fM s.blend,
  .slice 4 (s.wick.wicks.map Wick.pv) false,.slice 8 (s.wick.waxes.map Wax.pv) false,.int .i64 s.wick.flame.lo,.int .i64 s.wick.flame.hi,.int .i64 s.wick.pool.lo,.int .i64 s.wick.pool.hi,
  .slice 4 (s.hour.kinds.map HrKind.pv) false,.slice 5 (s.hour.rules.map HrRule.pv) false,.int .i64 s.hour.margin,
  .slice 4 (s.colour.colours.map ClColour.pv) false,.int .i64 s.colour.keep.lo,.int .i64 s.colour.keep.hi,.int .i64 s.colour.rinse]
def ChShop.pv (s:ChShop):PV:=.agg s.cells
def ChLot.pv (l:ChLot):PV:=.agg [.str l.name,.int .i64 l.kind,.int .i64 l.grams,.slice 1 (l.readings.map aG) false]
def ChBatch.pv (b:ChBatch):PV:=.agg [.str b.name,.int .i64 b.colour,.int .i64 b.lot,.int .i64 b.grams]
def ChBooks.cells (b:ChBooks):List PV:=[.slice 4 (b.lots.map ChLot.pv) false,.slice 4 (b.batches.map ChBatch.pv) false,.slice 3 (b.tests.map HrTest.pv) false,.slice 2 (b.boxes.map HrBox.pv) false,.int .i64 b.poured,.int .i64 b.lost]
def ChBooks.pv (b:ChBooks):PV:=.agg b.cells
attribute [go_sem] ChShop.cells ChShop.pv ChLot.pv ChBatch.pv ChBooks.cells ChBooks.pv
end Abs
end Go.Proofs.YtnjiadikeacfaaaGreatDoor
