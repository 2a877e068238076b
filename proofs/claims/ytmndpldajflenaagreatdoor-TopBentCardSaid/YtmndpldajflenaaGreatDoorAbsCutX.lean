/- CONTRACTS of the program's functions, and laws on what they return. No conditions but those in the theorems' heads. -/
import Derived.Test.YtmndpldajflenaaGreatDoorAbsKill
import Derived.Test.YtmndpldajflenaaGreatDoorSeatTy
import Derived.Test.YtmndpldajflenaaGreatDoorTie
import Derived.LaidLaws
import Derived.LaidSub
import Derived.LaidMore
import Derived.Lay
import Derived.MakeChecks
set_option linter.all false
open Go.Proofs.Tryz renaming prog->TP
namespace Go.Proofs.YtmndpldajflenaaGreatDoor
namespace Abs
variable {P:Program} {M0:Nat->Prop}
def HJ:AEnd->Prop
 |.ret (.p _)=>True
 |.panic _=>True
 |_=>False
theorem vH(hD:eZ P){H}{f}{fn}{c}{args}{h}{R}{rs}{n}(hf:P.funcs[f]?=some fn)(hb:fn.body=some c)(hrs:fn.results.toList=rs)(hn:fn.ntmps=n)(hok:dv H fn=true)
  (hlen:args.length<=n) (hw:wp P H c (jv P rs h.length (λ_ r h''=>∃h' t,h''=h'++t/\h'.length=h.length/\(∀o,o∈h'->bw h'.length o)/\HJ r/\R r h')) (fZ n .no args h)):aN P f args h R:=by
 intro M0 m w cargs hS hargs;have:=l7 hD (R:=λr h''=>∃h' t,h''=h'++t/\h'.length=h.length/\(∀o,o∈h'->bw h'.length o)/\HJ r/\R r h') hf hb hrs hn hok hlen hw M0 m w cargs hS hargs;refine⟨this.1,this.2.mono λe w' hh=>?_⟩;obtain⟨r,h'',m',⟨h',t,rfl,hl,hbel,hp,hR⟩,hev,hk,hend⟩:=hh;have hkeep:∀(id:Nat) (o:AObj),id<h'.length->(h'++t)[id]?=some o->bw h'.length o:=λid o hid ho=>by
  rw[br hid]at ho;exact hbel o (aV ho)
 have hcut:=Dh (S:=⟨m',h'++t,w'⟩) hk (l:=h'.length) hkeep;have ecut:Mem.cut ⟨m',h'++t,w'⟩ h'.length=⟨m'.take h'.length,h',w'⟩:=by simp[Mem.cut]
 rw[ecut]at hcut;have hav:∀b,Avoid M0 (m'.take h'.length) b->Avoid M0 m' b:=λb hb=>by
  rcases hb with hb|hb
  .exact .inl hb
  .exact .inr (zg hb)
 refine⟨r,h',m'.take h'.length,hR,⟨hev.fr,λb hb=>hev.sub b (zg hb),λid o hid ho=>?_⟩,hcut,?_⟩
 .have hid':id<h'.length:=by rw[hl];exact hid
  obtain⟨o',h1,h2⟩:=hev.obj id o hid ho;refine⟨o',?_,?_⟩
  .have h1':(h'++t)[id]?=some o':=h1;rw[br hid']at h1';exact h1'
  .have:(m'.take h'.length).getD id none=m'.getD id none:=by
    rw[bB,bB,kh,if_pos hid']
   show ObjEv _ _ ((m'.take h'.length).getD id none) _;rw[this];exact h2
 .cases e with
  |returned v'=>
   cases r with
   |panic v=>exact hend.elim
   |ret a=>
    cases a<;>first|exact hp.elim|skip
    rename_i v
    exact RepP.less (show RepP (Avoid M0 m') w' v' v from hend) hav
  |panicked ch=>
   cases r with
   |ret a=>exact hend.elim
   |panic v=>
    obtain⟨v',h1,h2⟩:=hend
    exact⟨v',h1,RepP.less (show RepP (Avoid M0 m') w' v' v from h2) hav⟩
  |outgrown=>exact hend.elim
end Abs
end Go.Proofs.YtmndpldajflenaaGreatDoor
namespace Go.Proofs.YtmndpldajflenaaGreatDoor
namespace Abs
variable {fn:Func} {nm og:String} {ta ps rt:Array TypeId} {nf n el:Nat} {rs:List ResultVar} {c:Code} {nr ou:Bool} {fl:String} {ln:Option Nat} {mt:List Departure} {tn:Array String} {H:Hints} {f:FuncId} {pargs:List PV} {args:List AV} {h:Heap}
abbrev s5 (H:Hints) (f:FuncId) (fn:Func) (n:Nat) (rs:List ResultVar) (c:Code):Prop:=TP.funcs[f]?=some fn/\fn.body=some c/\fn.results.toList=rs/\fn.ntmps=n/\dv H fn=true
theorem ku(hf:TP.funcs[f]?=some fn)(he:fn=⟨nm,og,ta,ps,rt,nf,n,⟨rs⟩,some c,nr,ou,fl,el,ln,mt,tn⟩)(hok:dv H fn=true):s5 H f fn n rs c:=by
 subst he;exact⟨hf,rfl,rfl,rfl,hok⟩
theorem am(hf:TP.funcs[f]?=some fn)(he:fn=⟨nm,og,ta,ps,rt,nf,n,⟨rs⟩,some c,nr,ou,fl,el,ln,mt,tn⟩)(hok:dv H0 fn=true:=by kernel_rfl):s5 H0 f fn n rs c:=ku hf he hok
theorem ae{v:PV}(k:s5 H f fn n rs c)(hl:Nat.ble pargs.length n=true)(hw:wp TP H c (jv TP rs 0 (λ_ r _=>r=.ret (.p v))) (fZ n .no (pargs.map .p) [])):PCall TP f pargs v:=
 let ⟨a,b,d,e,g⟩:=k;Cc mT a b d e g (s8 hl) hw
theorem cm{v:PV}(k:s5 H f fn n rs c)(hl:Nat.ble pargs.length n=true)(hw:wp TP H c (jv TP rs 0 (λ_ r h=>Eu h r=some v)) (fZ n .no (pargs.map .p) [])):PCall TP f pargs v:=
 let ⟨a,b,d,e,g⟩:=k;u9 mT a b d e g (s8 hl) hw
theorem di{v:PV}(k:s5 H f fn n rs c)(hl:Nat.ble pargs.length n=true)(hw:wp TP H c (jv TP rs 0 (λ_ r h=>yW h r=some v)) (fZ n .no (pargs.map .p) [])):eS TP f pargs v:=
 let ⟨a,b,d,e,g⟩:=k;Ah mT a b d e g (s8 hl) hw
theorem dH{R:AEnd->Heap->Prop}(k:s5 H f fn n rs c)(hl:Nat.ble args.length n=true)(hw:wp TP H c (jv TP rs h.length (λ_=>R)) (fZ n .no args h)):aN TP f args h R:=
 let ⟨a,b,d,e,g⟩:=k;l7 mT a b d e g (s8 hl) hw
theorem Bd{u:AMode}{R:AEnd->AMode->Heap->Prop}(k:s5 H f fn n rs c)(hl:Nat.ble args.length n=true)(hw:wp TP H c (jv TP rs h.length (λrc r h'=>R r (nO u rc) h')) (fZ n (wM u) args h)):oW TP f args u h R:=
 let ⟨a,b,d,e,g⟩:=k;Ct mT a b d e g (s8 hl) hw
theorem dS{R:AEnd->Heap->Prop}(k:s5 H f fn n rs c)(hl:Nat.ble args.length n=true)(hw:wp TP H c (jv TP rs h.length (λ_ r h''=>∃h' t,h''=h'++t/\h'.length=h.length/\(∀o,o∈h'->bw h'.length o)/\HJ r/\R r h')) (fZ n .no args h)):aN TP f args h R:=
 let ⟨a,b,d,e,g⟩:=k;vH mT a b d e g (s8 hl) hw
end Abs
end Go.Proofs.YtmndpldajflenaaGreatDoor
namespace Go.Proofs.YtmndpldajflenaaGreatDoor
open Go.ChangeShapes Go.WideShapes Go.ChangeAt Go.RowKit
namespace Abs
set_option maxRecDepth 100000
theorem MY:ownKnob TP.godebug=none:=by kernel_rfl
theorem laid:laidOutB TP=true:=by kernel_rfl
def IW (t:TypeId):Prop:=rD TP 8 t=true/\TP.readableRec t=true/\t<TP.types.size
theorem M6:IW 22:=⟨by kernel_rfl,by kernel_rfl,of_decide_eq_true (by kernel_rfl)⟩
theorem M4:IW 27:=⟨by kernel_rfl,by kernel_rfl,of_decide_eq_true (by kernel_rfl)⟩
theorem M3:IW 31:=⟨by kernel_rfl,by kernel_rfl,of_decide_eq_true (by kernel_rfl)⟩
def ah:List (String×DataW Unit):=Rows.topBentRow.laid
theorem plain:∀W,laidMetH TP ah W->laidMet TP ah W:=λW h=>by
 rw[MakeChecks.laidMetH_plain _ _ _ (by kernel_rfl)]at h;exact h
theorem Nq:ah.filter (λx=>x.1 == "internal/strconv.uint64pow10")=[("internal/strconv.uint64pow10", Lib.tabData .u64 Lib.pow10Tab)]:=by rfl
theorem Np:ah.filter (λx=>x.1 == "strconv.ErrSyntax")=[("strconv.ErrSyntax", Rows.laid_strconv_ErrSyntax)]:=by rfl
theorem No:ah.filter (λx=>x.1 == "strconv.ErrRange")=[("strconv.ErrRange", Rows.laid_strconv_ErrRange)]:=by rfl
theorem Pi:∃ms,TP.underlying 223=some (.interface ms):=⟨_,rfl⟩
theorem uY{W:World}{name nm:String}{d:DataW Unit}{g:Nat}(hg:TP.globalNamed name=some g)(ht:(TP.globals[g]?).map (·.type)=some 223)
  (h:laidMet TP [(name,.iface nm d)] W):∃tp p,W.var? TP name=some #[.iface tp p]:=by
 obtain⟨ps,⟨g',t',cs,fuel,p,q,hg',ht',hvar,hd,_,_⟩,_⟩:=h;obtain rfl:=fW (hg.symm.trans hg');obtain rfl:=fW (ht.symm.trans ht');obtain⟨ms,hms⟩:=Pi;obtain⟨f1,u,v,hcs,_,_⟩:=iface_of_trod hms hd;refine⟨u,v,?_⟩;rw[hvar]
 congr 1
 apply Array.ext';simpa using hcs
theorem P8{W:World}(h0:laidMetH TP ah W):s4 TP W:=by
 have h:=plain W h0;refine⟨λb hb=>?_,λb hb=>?_,λb hb=>?_⟩
 .have:=h.filter (λx=>x.1 == "internal/strconv.uint64pow10");rw[Nq]at this;exact Lib.tabIs_of_head (g:=1) (t:=408) (e:=340) (n:=20) (by kernel_rfl) (by kernel_rfl) (by kernel_rfl) (by kernel_rfl) (by kernel_rfl) (by kernel_rfl) this
 .have:=h.filter (λx=>x.1 == "strconv.ErrSyntax");rw[Np]at this;exact uY (g:=2) (by kernel_rfl) (by kernel_rfl) this
 .have:=h.filter (λx=>x.1 == "strconv.ErrRange");rw[No]at this;exact uY (g:=3) (by kernel_rfl) (by kernel_rfl) this
structure Span where
 lo:Int
 hi:Int
def intPV (n:Int):PV:=.int .i64 n
def Span.pv (s:Span):PV:=.agg [.int .i64 s.lo,.int .i64 s.hi]
attribute [go_sem] intPV Span.pv
structure HrKind where
 name:ByteArray
 weight:Span
 rest:Int
structure HrRule where
 name:ByteArray
 minutes:Span
 weight:Span
structure HrMark where
 minute:Int
 weight:Int
 deriving DecidableEq
structure HrTest where
 kind:Int
 error:Int
 marks:List HrMark
structure HrShop where
 kinds:List HrKind
 rules:List HrRule
 margin:Int
structure HrBox where
 kind:Int
 hours:Int
def HrKind.pv (k:HrKind):PV:=.agg [.str k.name,.int .i64 k.weight.lo,.int .i64 k.weight.hi,.int .i64 k.rest]
def HrRule.pv (r:HrRule):PV:=.agg [.str r.name,.int .i64 r.minutes.lo,.int .i64 r.minutes.hi,.int .i64 r.weight.lo,.int .i64 r.weight.hi]
def HrMark.pv (m:HrMark):PV:=.agg [.int .i64 m.minute,.int .i64 m.weight]
def HrTest.pv (t:HrTest):PV:=.agg [.int .i64 t.kind,.int .i64 t.error,.slice 2 (t.marks.map HrMark.pv) false]
def HrShop.pv (s:HrShop):PV:=.agg [.slice 4 (s.kinds.map HrKind.pv) false,.slice 5 (s.rules.map HrRule.pv) false,.int .i64 s.margin]
def HrBox.pv (b:HrBox):PV:=.agg [.int .i64 b.kind,.int .i64 b.hours]
attribute [go_sem] HrKind.pv HrRule.pv HrMark.pv HrTest.pv HrShop.pv HrBox.pv
structure Wick where
 name:ByteArray
 threads:Int
 pull:Span
structure Wax where
 name:ByteArray
 flow:Span
 rise:Span
 spread:Span
 chill:Int
structure Shop where
 wicks:List Wick
 waxes:List Wax
 flame:Span
 pool:Span
structure Candle where
 wax:Int
 diameter:Int
 draught:Int
 cold:Span
structure Truth where
 pull:Int
 flow:Int
 rise:Int
 spread:Int
 draught:Int
 cold:Int
structure Burn where
 rate:Int
 flame:Int
 pool:Int
def Wick.pv (x:Wick):PV:=.agg [.str x.name,.int .i64 x.threads,.int .i64 x.pull.lo,.int .i64 x.pull.hi]
def Wax.pv (x:Wax):PV:=.agg [.str x.name,.int .i64 x.flow.lo,.int .i64 x.flow.hi,.int .i64 x.rise.lo,.int .i64 x.rise.hi,.int .i64 x.spread.lo,.int .i64 x.spread.hi,.int .i64 x.chill]
def Shop.pv (s:Shop):PV:=.agg [.slice 4 (s.wicks.map Wick.pv) false,.slice 8 (s.waxes.map Wax.pv) false,.int .i64 s.flame.lo,.int .i64 s.flame.hi,.int .i64 s.pool.lo,.int .i64 s.pool.hi]
def Candle.pv (c:Candle):PV:=.agg [.int .i64 c.wax,.int .i64 c.diameter,.int .i64 c.draught,.int .i64 c.cold.lo,.int .i64 c.cold.hi]
def Truth.pv (t:Truth):PV:=.agg [.int .i64 t.pull,.int .i64 t.flow,.int .i64 t.rise,.int .i64 t.spread,.int .i64 t.draught,.int .i64 t.cold]
def Burn.pv (b:Burn):PV:=.agg [.int .i64 b.rate,.int .i64 b.flame,.int .i64 b.pool]
attribute [go_sem] Wick.pv Wax.pv Shop.pv Candle.pv Truth.pv Burn.pv
structure BdPoint where
 parts:Int
 add:Int
structure BdWax where
 name:ByteArray
 price:Int
 melt:Span
 shrink:Span
 curve:List BdPoint
structure BdWish where
 parts:List Span
 melt:Span
 shrink:Span
structure BdLot where
 melt:Int
 shrink:Int
def BdPoint.pv (p:BdPoint):PV:=.agg [.int .i64 p.parts,.int .i64 p.add]
def BdWax.pv (x:BdWax):PV:=.agg [.str x.name,.int .i64 x.price,.int .i64 x.melt.lo,.int .i64 x.melt.hi,.int .i64 x.shrink.lo,.int .i64 x.shrink.hi,.slice 2 (x.curve.map BdPoint.pv) false]
def BdWish.pv (w:BdWish):PV:=.agg [.slice 2 (w.parts.map Span.pv) false,.int .i64 w.melt.lo,.int .i64 w.melt.hi,.int .i64 w.shrink.lo,.int .i64 w.shrink.hi]
def BdLot.pv (x:BdLot):PV:=.agg [.int .i64 x.melt,.int .i64 x.shrink]
def Dq (l:List BdWax):PV:=.slice 7 (l.map BdWax.pv) false
def Pg (l:List Int):PV:=.slice 1 (l.map intPV) false
def MC (l:List BdLot):PV:=.slice 2 (l.map BdLot.pv) false
attribute [go_sem] BdPoint.pv BdWax.pv BdWish.pv BdLot.pv Dq Pg MC
structure WxProp where
 name:ByteArray
 error:Int
structure WxKind where
 name:ByteArray
 props:List Span
structure WxTable where
 props:List WxProp
 kinds:List WxKind
 purity:Int
def WxProp.pv (p:WxProp):PV:=.agg [.str p.name,.int .i64 p.error]
def WxKind.pv (k:WxKind):PV:=.agg [.str k.name,.slice 2 (k.props.map Span.pv) false]
def WxTable.pv (t:WxTable):PV:=.agg [.slice 2 (t.props.map WxProp.pv) false,.slice 2 (t.kinds.map WxKind.pv) false,.int .i64 t.purity]
attribute [go_sem] WxProp.pv WxKind.pv WxTable.pv
structure ClColour where
 name:ByteArray
 stay:Span
 shows:List Int
structure ClShop where
 colours:List ClColour
 keep:Span
 rinse:Int
structure ClBatch where
 colour:Int
 grams:Int
def ClColour.pv (c:ClColour):PV:=.agg [.str c.name,.int .i64 c.stay.lo,.int .i64 c.stay.hi,.slice 1 (c.shows.map intPV) false]
def ClShop.pv (s:ClShop):PV:=.agg [.slice 4 (s.colours.map ClColour.pv) false,.int .i64 s.keep.lo,.int .i64 s.keep.hi,.int .i64 s.rinse]
def ClBatch.pv (b:ClBatch):PV:=.agg [.int .i64 b.colour,.int .i64 b.grams]
attribute [go_sem] ClColour.pv ClShop.pv ClBatch.pv
structure ChShop where
 wax:WxTable
 blend:List BdWax
 wick:Shop
 hour:HrShop
 colour:ClShop
structure ChLot where
 name:ByteArray
 kind:Int
 grams:Int
 readings:List Int
structure ChBatch where
 name:ByteArray
 colour:Int
 lot:Int
 grams:Int
structure ChBooks where
 lots:List ChLot
 batches:List ChBatch
 tests:List HrTest
 boxes:List HrBox
 poured:Int
 lost:Int
def ChShop.cells (s:ChShop):List PV:=
 [.slice 2 (s.wax.props.map WxProp.pv) false,.slice 2 (s.wax.kinds.map WxKind.pv) false,.int .i64 s.wax.purity,Dq s.blend,
  .slice 4 (s.wick.wicks.map Wick.pv) false,.slice 8 (s.wick.waxes.map Wax.pv) false,.int .i64 s.wick.flame.lo,.int .i64 s.wick.flame.hi,.int .i64 s.wick.pool.lo,.int .i64 s.wick.pool.hi,
  .slice 4 (s.hour.kinds.map HrKind.pv) false,.slice 5 (s.hour.rules.map HrRule.pv) false,.int .i64 s.hour.margin,
  .slice 4 (s.colour.colours.map ClColour.pv) false,.int .i64 s.colour.keep.lo,.int .i64 s.colour.keep.hi,.int .i64 s.colour.rinse]
def ChShop.pv (s:ChShop):PV:=.agg s.cells
def ChLot.pv (l:ChLot):PV:=.agg [.str l.name,.int .i64 l.kind,.int .i64 l.grams,.slice 1 (l.readings.map intPV) false]
def ChBatch.pv (b:ChBatch):PV:=.agg [.str b.name,.int .i64 b.colour,.int .i64 b.lot,.int .i64 b.grams]
def ChBooks.cells (b:ChBooks):List PV:=[.slice 4 (b.lots.map ChLot.pv) false,.slice 4 (b.batches.map ChBatch.pv) false,.slice 3 (b.tests.map HrTest.pv) false,.slice 2 (b.boxes.map HrBox.pv) false,.int .i64 b.poured,.int .i64 b.lost]
def ChBooks.pv (b:ChBooks):PV:=.agg b.cells
attribute [go_sem] ChShop.cells ChShop.pv ChLot.pv ChBatch.pv ChBooks.cells ChBooks.pv
structure SoCandle where
 bend:Int
 days:Int
 jump:Int
 times:Int
structure SoStore where
 name:ByteArray
 rent:Int
 warm:List Span
structure SoSeason where
 candle:SoCandle
 move:Int
 stores:List SoStore
def SoCandle.cells (c:SoCandle):List PV:=[.int .i64 c.bend,.int .i64 c.days,.int .i64 c.jump,.int .i64 c.times]
def SoCandle.pv (c:SoCandle):PV:=.agg c.cells
def SoStore.pv (s:SoStore):PV:=.agg [.str s.name,.int .i64 s.rent,.slice 2 (s.warm.map Span.pv) false]
def SoSeason.cells (s:SoSeason):List PV:=[.int .i64 s.candle.bend,.int .i64 s.candle.days,.int .i64 s.candle.jump,.int .i64 s.candle.times,.int .i64 s.move,.slice 3 (s.stores.map SoStore.pv) false]
def SoSeason.pv (s:SoSeason):PV:=.agg s.cells
attribute [go_sem] SoCandle.cells SoCandle.pv SoStore.pv SoSeason.cells SoSeason.pv
structure TrTake where
 src:Int
 grams:Int
structure TrBatch where
 name:ByteArray
 grams:Int
 fresh:Int
 lost:Bool
 takes:List TrTake
def TrTake.pv (t:TrTake):PV:=.agg [.int .i64 t.src,.int .i64 t.grams]
def TrBatch.pv (b:TrBatch):PV:=.agg [.str b.name,.int .i64 b.grams,.int .i64 b.fresh,.bool b.lost,.slice 2 (b.takes.map TrTake.pv) false]
attribute [go_sem] TrTake.pv TrBatch.pv
set_option maxRecDepth 4000
theorem gR(n)(h):∀l,aM (bH n h) (l.map .p)=some l
 |[]=>rfl
 |x::r=>by rw[iu,aM,gR n h r,jZ]
theorem eH:∀l,bV (l.map .p)=some l
 |[]=>rfl
 |x::r=>by rw[iu,bV,eH r]
attribute [go_sem] gR eH
def rK (P:Program) (fv:PV) (xs:List PV) (y:PV):Prop:=∃(g:FuncId) (first cap:List PV),fv=.func (.func g) first cap/\PCall P g (first++xs++cap) y
def gE {α:Type} (p:α->Bool):List α->Nat->Int
 |[],_=>-1
 |x::r,i=>if p x=true then(i:Int) else gE p r (i+1)
theorem qX{α}(p:α->Bool):∀(l) (i),decide (0<=gE p l i)=l.any p
 |[],i=>by simp[gE]
 |x::r,i=>by
  unfold gE;rw[eV];cases hx:p x
  .simp only[gZ,if_false,gA];exact qX p r (i+1)
  .simp
theorem az{a b c:Int}(h0:0<=c)(h:c<=ai)(e:a+b=c):IntKind.i64.wrap (a+b)=c:=by rw[e];exact iz h0 h
theorem w8{α:Type}{l done r:List α}{x}(h:l=done++x::r):l[done.length]?=some x/\((done.length:Int)<(l.length:Int)):=by
 subst h;refine⟨by simp,by simp;omega⟩
theorem t6{fv}(l)(p)(b)(sz)(hsz:sz=1)(hl:l.length<1000000000)(hf:∀x,x∈l->rK TP fv [intPV x] (.bool (p x))) :
  PCall TP 143 [.slice sz (l.map intPV) b,fv] (.int .i64 (gE p l 0)):=by
 subst hsz;refine ae (am Tryz.func143 rfl) rfl ?_;simp only[go_sem,simprocAttr];refine oe [0,1,7] l hl (τ:=Unit) (λdone rest _=>gE p l 0=gE p rest done.length) (λdone _=>[(8,.p (.int .i64 done.length))]) () rfl ?_ ?_ ?_
 .simp only[go_sem,simprocAttr]<;>simp
 .intro _ e2;simp only[go_sem,simprocAttr];rw[e2];rfl
 .intro done x r _ e1 e2 hx hlt hnx;obtain⟨g,first,cap,rfl,hc⟩:=hf x (by rw[e1];simp);simp only[hlt,decide_true,hx,intPV,go_sem,simprocAttr];refine aa hc (by simp[intPV]) ?_;simp only[go_sem,simprocAttr];refine dT (λhb=>?_) (λhb=>?_)
  .simp only[go_sem,simprocAttr];rw[e2];simp[gE,hb]
  .simp only[go_sem,simprocAttr];refine aq e1 () (by rw[e2];simp[gE,hb]) ?_;simp only[hnx,go_sem,simprocAttr]
theorem p5{fv}(l:List Int)(p)(b)(sz)(hsz:sz=1)(hl:l.length<1000000000)(hf:∀x,x∈l->rK TP fv [intPV x] (.bool (p x))) :
  PCall TP 111 [.slice sz (l.map intPV) b,fv] (.bool (l.any p)):=by
 refine ae (am Tryz.func111 rfl) rfl ?_;simp only[go_sem,simprocAttr];refine aa (t6 l p b sz hsz hl hf) rfl ?_;simp only[go_sem,simprocAttr];rw[qX]
end Abs
end Go.Proofs.YtmndpldajflenaaGreatDoor
