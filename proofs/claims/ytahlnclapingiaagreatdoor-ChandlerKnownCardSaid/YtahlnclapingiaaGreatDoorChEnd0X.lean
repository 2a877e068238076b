/-
  WHAT ALL LAWS' STATEMENTS ASK OF THE PROGRAM: closed facts; what the listed variables hold
  THE DATA THAT LAYERS SHARE, as plain Lean, and how it stands as immutable values. Definiti
  THE DATA OF CHAPTER 09, as plain Lean, and how it stands as immutable values. Definitions.
  THE DATA OF LAYER 3 (wick), as plain Lean, and how it stands as immutable values. Definiti
  THE DATA OF LAYER 2 (blend), as plain Lean, and how it stands as immutable values. Definit
  THE DATA OF LAYER 1 (wax), as plain Lean, and how it stands as immutable values. Definitio
  THE DATA OF LAYER 11 (colour), as plain Lean, and how it stands as immutable values. Defin
  THE DATA OF LAYER 13 (chandler), as plain Lean, and how it stands as immutable values. Def
  THE DATA OF THE LAYERS. Definitions.
  CONTRACTS OF Go's LIBRARY, as far as a seat's program reaches it: slices.IndexFunc, slices
-/
import Derived.Test.YtahlnclapingiaaGreatDoorTie
import Derived.Test.YtahlnclapingiaaGreatDoorSeatTy
import Derived.Test.YtahlnclapingiaaGreatDoorAbsKill
import Derived.Lib.LaidTab
import Derived.LaidLaws
import Derived.LaidSub
import Derived.LaidMore
import Derived.Lay
import Derived.MakeChecks
import Derived.Test.YtahlnclapingiaaGreatDoorAbsDef
set_option linter.unusedSimpArgs false
set_option linter.unusedVariables false
namespace Go.Proofs.YtahlnclapingiaaGreatDoor
open Go.ChangeShapes Go.WideShapes Go.ChangeAt Go.RowKit
namespace Abs
set_option maxRecDepth 100000
theorem zHF:ownKnob Tryz.prog.godebug=none:=by kernel_rfl
theorem laid:laidOutB Tryz.prog=true:=by kernel_rfl
def zai:List (String×DataW Unit):=Rows.chandlerCardsRow.laid
theorem plain:∀ W,laidMetH Tryz.prog zai W→laidMet Tryz.prog zai W:=fun W h=>by
 rw [MakeChecks.laidMetH_plain _ _ _ (by kernel_rfl)] at h
 exact h
theorem zKG:zai.filter (fun x=>x.1 == "internal/strconv.uint64pow10")=[("internal/strconv.uint64pow10", Lib.tabData .u64 Lib.pow10Tab)]:=by rfl
theorem zKF:zai.filter (fun x=>x.1 == "strconv.ErrSyntax")=[("strconv.ErrSyntax", Rows.laid_strconv_ErrSyntax)]:=by rfl
theorem zKE:zai.filter (fun x=>x.1 == "strconv.ErrRange")=[("strconv.ErrRange", Rows.laid_strconv_ErrRange)]:=by rfl
theorem zNv:∃ ms,Tryz.prog.underlying 74=some (.interface ms):=⟨_,rfl⟩
theorem zpc {W:World} {name nm:String} {d:DataW Unit} {g:Nat} (hg:Tryz.prog.globalNamed name=some g) (ht:(Tryz.prog.globals[g]?).map (·.type)=some 74)
  (h:laidMet Tryz.prog [(name,.iface nm d)] W):∃ tp p,W.var? Tryz.prog name=some #[.iface tp p]:=by
 obtain ⟨ps,⟨g',t',cs,fuel,p,q,hg',ht',hvar,hd,_,_⟩,_⟩:=h
 obtain rfl:=Option.some.inj (hg.symm.trans hg')
 obtain rfl:=Option.some.inj (ht.symm.trans ht')
 obtain ⟨ms,hms⟩:=zNv
 obtain ⟨f1,u,v,hcs,_,_⟩:=iface_of_trod hms hd
 refine ⟨u,v,?_⟩
 rw [hvar]
 congr 1
 apply Array.ext'
 simpa using hcs
theorem gok {W:World} (h0:laidMetH Tryz.prog zai W):GOk Tryz.prog W:=by
 have h:=plain W h0
 refine ⟨fun b hb=>?_,fun b hb=>?_,fun b hb=>?_⟩
 ·have:=h.filter (fun x=>x.1 == "internal/strconv.uint64pow10")
  rw [zKG] at this
  exact Lib.tabIs_of_head (g:=1) (t:=300) (e:=228) (n:=20) (by kernel_rfl) (by kernel_rfl) (by kernel_rfl) (by kernel_rfl) (by kernel_rfl) (by kernel_rfl) this
 ·have:=h.filter (fun x=>x.1 == "strconv.ErrSyntax")
  rw [zKF] at this
  exact zpc (g:=4) (by kernel_rfl) (by kernel_rfl) this
 ·have:=h.filter (fun x=>x.1 == "strconv.ErrRange")
  rw [zKE] at this
  exact zpc (g:=5) (by kernel_rfl) (by kernel_rfl) this
end Abs
end Go.Proofs.YtahlnclapingiaaGreatDoor
namespace Go.Proofs.YtahlnclapingiaaGreatDoor
namespace Abs
structure Span where
 lo:Int
 hi:Int
def zay (n:Int):PV:=.int .i64 n
def Span.pv (s:Span):PV:=.agg [.int .i64 s.lo,.int .i64 s.hi]
attribute [go_sem] zay Span.pv
end Abs
end Go.Proofs.YtahlnclapingiaaGreatDoor
namespace Go.Proofs.YtahlnclapingiaaGreatDoor
namespace Abs
structure HrKind where
 name:ByteArray
 weight:Span
 rest:Int
structure HrRule where
 name:ByteArray
 minutes:Span
 weight:Span
structure HrMark where
 minute:Int
 weight:Int
 deriving DecidableEq
structure HrTest where
 kind:Int
 error:Int
 marks:List HrMark
structure HrShop where
 kinds:List HrKind
 rules:List HrRule
 margin:Int
structure HrBox where
 kind:Int
 hours:Int
def HrKind.pv (k:HrKind):PV:=.agg [.str k.name,.int .i64 k.weight.lo,.int .i64 k.weight.hi,.int .i64 k.rest]
def HrRule.pv (r:HrRule):PV:=.agg [.str r.name,.int .i64 r.minutes.lo,.int .i64 r.minutes.hi,.int .i64 r.weight.lo,.int .i64 r.weight.hi]
def HrMark.pv (m:HrMark):PV:=.agg [.int .i64 m.minute,.int .i64 m.weight]
def HrTest.pv (t:HrTest):PV:=.agg [.int .i64 t.kind,.int .i64 t.error,.slice 2 (t.marks.map HrMark.pv) false]
def HrShop.pv (s:HrShop):PV:=.agg [.slice 4 (s.kinds.map HrKind.pv) false,.slice 5 (s.rules.map HrRule.pv) false,.int .i64 s.margin]
def HrBox.pv (b:HrBox):PV:=.agg [.int .i64 b.kind,.int .i64 b.hours]
attribute [go_sem] HrKind.pv HrRule.pv HrMark.pv HrTest.pv HrShop.pv HrBox.pv
end Abs
end Go.Proofs.YtahlnclapingiaaGreatDoor
namespace Go.Proofs.YtahlnclapingiaaGreatDoor
namespace Abs
structure Wick where
 name:ByteArray
 threads:Int
 pull:Span
structure Wax where
 name:ByteArray
 flow:Span
 rise:Span
 spread:Span
 chill:Int
structure Shop where
 wicks:List Wick
 waxes:List Wax
 flame:Span
 pool:Span
structure Candle where
 wax:Int
 diameter:Int
 draught:Int
 cold:Span
structure Truth where
 pull:Int
 flow:Int
 rise:Int
 spread:Int
 draught:Int
 cold:Int
structure Burn where
 rate:Int
 flame:Int
 pool:Int
def Wick.pv (x:Wick):PV:=.agg [.str x.name,.int .i64 x.threads,.int .i64 x.pull.lo,.int .i64 x.pull.hi]
def Wax.pv (x:Wax):PV:=.agg [.str x.name,.int .i64 x.flow.lo,.int .i64 x.flow.hi,.int .i64 x.rise.lo,.int .i64 x.rise.hi,.int .i64 x.spread.lo,.int .i64 x.spread.hi,.int .i64 x.chill]
def Shop.pv (s:Shop):PV:=.agg [.slice 4 (s.wicks.map Wick.pv) false,.slice 8 (s.waxes.map Wax.pv) false,.int .i64 s.flame.lo,.int .i64 s.flame.hi,.int .i64 s.pool.lo,.int .i64 s.pool.hi]
def Candle.pv (c:Candle):PV:=.agg [.int .i64 c.wax,.int .i64 c.diameter,.int .i64 c.draught,.int .i64 c.cold.lo,.int .i64 c.cold.hi]
def Truth.pv (t:Truth):PV:=.agg [.int .i64 t.pull,.int .i64 t.flow,.int .i64 t.rise,.int .i64 t.spread,.int .i64 t.draught,.int .i64 t.cold]
def Burn.pv (b:Burn):PV:=.agg [.int .i64 b.rate,.int .i64 b.flame,.int .i64 b.pool]
attribute [go_sem] Wick.pv Wax.pv Shop.pv Candle.pv Truth.pv Burn.pv
end Abs
end Go.Proofs.YtahlnclapingiaaGreatDoor
namespace Go.Proofs.YtahlnclapingiaaGreatDoor
namespace Abs
structure BdPoint where
 parts:Int
 add:Int
structure BdWax where
 name:ByteArray
 price:Int
 melt:Span
 shrink:Span
 curve:List BdPoint
structure BdWish where
 parts:List Span
 melt:Span
 shrink:Span
structure BdLot where
 melt:Int
 shrink:Int
def BdPoint.pv (p:BdPoint):PV:=.agg [.int .i64 p.parts,.int .i64 p.add]
def BdWax.pv (x:BdWax):PV:=.agg [.str x.name,.int .i64 x.price,.int .i64 x.melt.lo,.int .i64 x.melt.hi,.int .i64 x.shrink.lo,.int .i64 x.shrink.hi,.slice 2 (x.curve.map BdPoint.pv) false]
def BdWish.pv (w:BdWish):PV:=.agg [.slice 2 (w.parts.map Span.pv) false,.int .i64 w.melt.lo,.int .i64 w.melt.hi,.int .i64 w.shrink.lo,.int .i64 w.shrink.hi]
def BdLot.pv (x:BdLot):PV:=.agg [.int .i64 x.melt,.int .i64 x.shrink]
def zdt (l:List BdWax):PV:=.slice 7 (l.map BdWax.pv) false
def zNs (l:List Int):PV:=.slice 1 (l.map zay) false
def zGW (l:List BdLot):PV:=.slice 2 (l.map BdLot.pv) false
attribute [go_sem] BdPoint.pv BdWax.pv BdWish.pv BdLot.pv zdt zNs zGW
end Abs
end Go.Proofs.YtahlnclapingiaaGreatDoor
namespace Go.Proofs.YtahlnclapingiaaGreatDoor
namespace Abs
structure WxProp where
 name:ByteArray
 error:Int
structure WxKind where
 name:ByteArray
 props:List Span
structure WxTable where
 props:List WxProp
 kinds:List WxKind
 purity:Int
def WxProp.pv (p:WxProp):PV:=.agg [.str p.name,.int .i64 p.error]
def WxKind.pv (k:WxKind):PV:=.agg [.str k.name,.slice 2 (k.props.map Span.pv) false]
def WxTable.pv (t:WxTable):PV:=.agg [.slice 2 (t.props.map WxProp.pv) false,.slice 2 (t.kinds.map WxKind.pv) false,.int .i64 t.purity]
attribute [go_sem] WxProp.pv WxKind.pv WxTable.pv
end Abs
end Go.Proofs.YtahlnclapingiaaGreatDoor
namespace Go.Proofs.YtahlnclapingiaaGreatDoor
namespace Abs
structure ClColour where
 name:ByteArray
 stay:Span
 shows:List Int
structure ClShop where
 colours:List ClColour
 keep:Span
 rinse:Int
structure ClBatch where
 colour:Int
 grams:Int
def ClColour.pv (c:ClColour):PV:=.agg [.str c.name,.int .i64 c.stay.lo,.int .i64 c.stay.hi,.slice 1 (c.shows.map zay) false]
def ClShop.pv (s:ClShop):PV:=.agg [.slice 4 (s.colours.map ClColour.pv) false,.int .i64 s.keep.lo,.int .i64 s.keep.hi,.int .i64 s.rinse]
def ClBatch.pv (b:ClBatch):PV:=.agg [.int .i64 b.colour,.int .i64 b.grams]
attribute [go_sem] ClColour.pv ClShop.pv ClBatch.pv
end Abs
end Go.Proofs.YtahlnclapingiaaGreatDoor
namespace Go.Proofs.YtahlnclapingiaaGreatDoor
namespace Abs
structure ChShop where
 wax:WxTable
 blend:List BdWax
 wick:Shop
 hour:HrShop
 colour:ClShop
structure ChLot where
 name:ByteArray
 kind:Int
 grams:Int
 readings:List Int
structure ChBatch where
 name:ByteArray
 colour:Int
 lot:Int
 grams:Int
structure ChBooks where
 lots:List ChLot
 batches:List ChBatch
 tests:List HrTest
 boxes:List HrBox
 poured:Int
 lost:Int
def ChShop.cells (s:ChShop):List PV :=
 [.slice 2 (s.wax.props.map WxProp.pv) false,.slice 2 (s.wax.kinds.map WxKind.pv) false,.int .i64 s.wax.purity,zdt s.blend,
  .slice 4 (s.wick.wicks.map Wick.pv) false,.slice 8 (s.wick.waxes.map Wax.pv) false,.int .i64 s.wick.flame.lo,.int .i64 s.wick.flame.hi,.int .i64 s.wick.pool.lo,.int .i64 s.wick.pool.hi,
  .slice 4 (s.hour.kinds.map HrKind.pv) false,.slice 5 (s.hour.rules.map HrRule.pv) false,.int .i64 s.hour.margin,
  .slice 4 (s.colour.colours.map ClColour.pv) false,.int .i64 s.colour.keep.lo,.int .i64 s.colour.keep.hi,.int .i64 s.colour.rinse]
def ChShop.pv (s:ChShop):PV:=.agg s.cells
def ChLot.pv (l:ChLot):PV:=.agg [.str l.name,.int .i64 l.kind,.int .i64 l.grams,.slice 1 (l.readings.map zay) false]
def ChBatch.pv (b:ChBatch):PV:=.agg [.str b.name,.int .i64 b.colour,.int .i64 b.lot,.int .i64 b.grams]
def ChBooks.cells (b:ChBooks):List PV:=[.slice 4 (b.lots.map ChLot.pv) false,.slice 4 (b.batches.map ChBatch.pv) false,.slice 3 (b.tests.map HrTest.pv) false,.slice 2 (b.boxes.map HrBox.pv) false,.int .i64 b.poured,.int .i64 b.lost]
def ChBooks.pv (b:ChBooks):PV:=.agg b.cells
attribute [go_sem] ChShop.cells ChShop.pv ChLot.pv ChBatch.pv ChBooks.cells ChBooks.pv
end Abs
end Go.Proofs.YtahlnclapingiaaGreatDoor

namespace Go.Proofs.YtahlnclapingiaaGreatDoor
namespace Abs
set_option maxRecDepth 4000
theorem zrE (n:Nat) (h:Heap):∀ l:List PV,zaD (zbe n h) (l.map .p)=some l
 |[]=>rfl
 |x::r=>by rw [List.map_cons,zaD,zrE n h r,zcp]
theorem zv5:∀ l:List PV,zdx (l.map .p)=some l
 |[]=>rfl
 |x::r=>by rw [List.map_cons,zdx,zv5 r]
attribute [go_sem] zrE zv5
def App (P:Program) (fv:PV) (xs:List PV) (y:PV):Prop:=∃ (g:FuncId) (first cap:List PV),fv=.func (.func g) first cap∧zae P g (first++xs++cap) y
def zam {α:Type} (p:α→Bool):List α→Nat→Int
 |[],_=>-1
 |x::r,i=>if p x=true then (i:Int) else zam p r (i+1)
theorem zdo {α:Type} (p:α→Bool):∀ (l:List α) (i:Nat),decide (0≤zam p l i)=l.any p
 |[],i=>by simp [zam]
 |x::r,i=>by
  unfold zam
  rw [List.any_cons]
  cases hx:p x
  ·simp only [Bool.false_eq_true,if_false,Bool.false_or];exact zdo p r (i+1)
  ·simp
theorem za9 {a b c:Int} (h0:0≤c) (h:c≤zar) (e:a+b=c):IntKind.i64.wrap (a+b)=c:=by rw [e];exact zb3 h0 h
theorem zeb {α:Type} {l done r:List α} {x:α} (h:l=done++x::r):l[done.length]?=some x∧((done.length:Int)<(l.length:Int)):=by
 subst h
 refine ⟨by simp,by simp;omega⟩
theorem zvB {fv:PV} (l:List Int) (p:Int→Bool) (b:Bool) (sz:Nat) (hsz:sz=1) (hl:l.length<1000000000) (hf:∀ x,x∈l→App Tryz.prog fv [zay x] (.bool (p x))) :
  zae Tryz.prog 332 [.slice sz (l.map zay) b,fv] (.int .i64 (zam p l 0)):=by
 subst hsz
 refine zaa zad (fn:=Tryz.f332) (n:=19) (rs:=[.tmp 4]) (by kernel_rfl) rfl rfl rfl zIE (Nat.le_of_ble_eq_true rfl) ?_
 simp only [go_sem,simprocAttr]
 refine zcr [0,1,7] l hl (τ:=Unit) (fun done rest _=>zam p l 0=zam p rest done.length) (fun done _=>[(8,.p (.int .i64 done.length))]) () rfl ?_ ?_ ?_
 ·simp only [go_sem,simprocAttr]<;>simp
 ·intro _ e2
  simp only [go_sem,simprocAttr]
  rw [e2];rfl
 ·intro done x r _ e1 e2 hx hlt hnx
  obtain ⟨g,first,cap,rfl,hc⟩:=hf x (by rw [e1];simp)
  simp only [hlt,decide_true,hx,zay,go_sem,simprocAttr]
  refine zab hc (by simp [zay]) ?_
  simp only [go_sem,simprocAttr]
  refine zaH (fun hb=>?_) (fun hb=>?_)
  ·simp only [go_sem,simprocAttr]
   rw [e2]
   simp [zam,hb]
  ·simp only [go_sem,simprocAttr]
   refine zaA e1 () (by rw [e2];simp [zam,hb]) ?_
   simp only [hnx,go_sem,simprocAttr]
theorem zfb {fv:PV} (l:List Int) (p:Int→Bool) (b:Bool) (sz:Nat) (hsz:sz=1) (hl:l.length<1000000000) (hf:∀ x,x∈l→App Tryz.prog fv [zay x] (.bool (p x))) :
  zae Tryz.prog 251 [.slice sz (l.map zay) b,fv] (.bool (l.any p)):=by
 refine zaa zad (fn:=Tryz.f251) (n:=9) (rs:=[.tmp 4]) (by kernel_rfl) rfl rfl rfl zJx (Nat.le_of_ble_eq_true rfl) ?_
 simp only [go_sem,simprocAttr]
 refine zab (zvB l p b sz hsz hl hf) rfl ?_
 simp only [go_sem,simprocAttr]
 rw [zdo]
theorem zvA {fv:PV} (l:List Span) (p:Span→Bool) (b:Bool) (sz:Nat) (hsz:sz=2) (hl:l.length<1000000000) (hf:∀ x,x∈l→App Tryz.prog fv [Span.pv x] (.bool (p x))) :
  zae Tryz.prog 257 [.slice sz (l.map Span.pv) b,fv] (.int .i64 (zam p l 0)):=by
 subst hsz
 refine zaa zad (fn:=Tryz.f257) (n:=19) (rs:=[.tmp 4]) (by kernel_rfl) rfl rfl rfl zJr (Nat.le_of_ble_eq_true rfl) ?_
 simp only [go_sem,simprocAttr]
 refine zcr [0,1,7] l hl (τ:=Unit) (fun done rest _=>zam p l 0=zam p rest done.length) (fun done _=>[(8,.p (.int .i64 done.length))]) () rfl ?_ ?_ ?_
 ·simp only [go_sem,simprocAttr]<;>simp
 ·intro _ e2
  simp only [go_sem,simprocAttr]
  rw [e2];rfl
 ·intro done x r _ e1 e2 hx hlt hnx
  obtain ⟨g,first,cap,rfl,hc⟩:=hf x (by rw [e1];simp)
  simp only [hlt,decide_true,hx,Span.pv,go_sem,simprocAttr]
  refine zab hc (by simp [Span.pv]) ?_
  simp only [go_sem,simprocAttr]
  refine zaH (fun hb=>?_) (fun hb=>?_)
  ·simp only [go_sem,simprocAttr]
   rw [e2]
   simp [zam,hb]
  ·simp only [go_sem,simprocAttr]
   refine zaA e1 () (by rw [e2];simp [zam,hb]) ?_
   simp only [hnx,go_sem,simprocAttr]
theorem zij {fv:PV} (l:List Span) (p:Span→Bool) (b:Bool) (sz:Nat) (hsz:sz=2) (hl:l.length<1000000000) (hf:∀ x,x∈l→App Tryz.prog fv [Span.pv x] (.bool (p x))) :
  zae Tryz.prog 170 [.slice sz (l.map Span.pv) b,fv] (.bool (l.any p)):=by
 refine zaa zad (fn:=Tryz.f170) (n:=9) (rs:=[.tmp 4]) (by kernel_rfl) rfl rfl rfl zKe (Nat.le_of_ble_eq_true rfl) ?_
 simp only [go_sem,simprocAttr]
 refine zab (zvA l p b sz hsz hl hf) rfl ?_
 simp only [go_sem,simprocAttr]
 rw [zdo]
theorem zvz {fv:PV} (l:List BdWax) (p:BdWax→Bool) (b:Bool) (sz:Nat) (hsz:sz=7) (hl:l.length<1000000000) (hf:∀ x,x∈l→App Tryz.prog fv [BdWax.pv x] (.bool (p x))) :
  zae Tryz.prog 259 [.slice sz (l.map BdWax.pv) b,fv] (.int .i64 (zam p l 0)):=by
 subst hsz
 refine zaa zad (fn:=Tryz.f259) (n:=19) (rs:=[.tmp 4]) (by kernel_rfl) rfl rfl rfl zJp (Nat.le_of_ble_eq_true rfl) ?_
 simp only [go_sem,simprocAttr]
 refine zcr [0,1,7] l hl (τ:=Unit) (fun done rest _=>zam p l 0=zam p rest done.length) (fun done _=>[(8,.p (.int .i64 done.length))]) () rfl ?_ ?_ ?_
 ·simp only [go_sem,simprocAttr]<;>simp
 ·intro _ e2
  simp only [go_sem,simprocAttr]
  rw [e2];rfl
 ·intro done x r _ e1 e2 hx hlt hnx
  obtain ⟨g,first,cap,rfl,hc⟩:=hf x (by rw [e1];simp)
  simp only [hlt,decide_true,hx,BdWax.pv,go_sem,simprocAttr]
  refine zab hc (by simp [BdWax.pv]) ?_
  simp only [go_sem,simprocAttr]
  refine zaH (fun hb=>?_) (fun hb=>?_)
  ·simp only [go_sem,simprocAttr]
   rw [e2]
   simp [zam,hb]
  ·simp only [go_sem,simprocAttr]
   refine zaA e1 () (by rw [e2];simp [zam,hb]) ?_
   simp only [hnx,go_sem,simprocAttr]
theorem zqY {fv:PV} (l:List BdWax) (p:BdWax→Bool) (b:Bool) (sz:Nat) (hsz:sz=7) (hl:l.length<1000000000) (hf:∀ x,x∈l→App Tryz.prog fv [BdWax.pv x] (.bool (p x))) :
  zae Tryz.prog 174 [.slice sz (l.map BdWax.pv) b,fv] (.bool (l.any p)):=by
 refine zaa zad (fn:=Tryz.f174) (n:=9) (rs:=[.tmp 4]) (by kernel_rfl) rfl rfl rfl zKa (Nat.le_of_ble_eq_true rfl) ?_
 simp only [go_sem,simprocAttr]
 refine zab (zvz l p b sz hsz hl hf) rfl ?_
 simp only [go_sem,simprocAttr]
 rw [zdo]
theorem ziy {fv:PV} (l:List HrKind) (p:HrKind→Bool) (b:Bool) (sz:Nat) (hsz:sz=4) (hl:l.length<1000000000) (hf:∀ x,x∈l→App Tryz.prog fv [HrKind.pv x] (.bool (p x))) :
  zae Tryz.prog 277 [.slice sz (l.map HrKind.pv) b,fv] (.int .i64 (zam p l 0)):=by
 subst hsz
 refine zaa zad (fn:=Tryz.f277) (n:=19) (rs:=[.tmp 4]) (by kernel_rfl) rfl rfl rfl zI9 (Nat.le_of_ble_eq_true rfl) ?_
 simp only [go_sem,simprocAttr]
 refine zcr [0,1,7] l hl (τ:=Unit) (fun done rest _=>zam p l 0=zam p rest done.length) (fun done _=>[(8,.p (.int .i64 done.length))]) () rfl ?_ ?_ ?_
 ·simp only [go_sem,simprocAttr]<;>simp
 ·intro _ e2
  simp only [go_sem,simprocAttr]
  rw [e2];rfl
 ·intro done x r _ e1 e2 hx hlt hnx
  obtain ⟨g,first,cap,rfl,hc⟩:=hf x (by rw [e1];simp)
  simp only [hlt,decide_true,hx,HrKind.pv,go_sem,simprocAttr]
  refine zab hc (by simp [HrKind.pv]) ?_
  simp only [go_sem,simprocAttr]
  refine zaH (fun hb=>?_) (fun hb=>?_)
  ·simp only [go_sem,simprocAttr]
   rw [e2]
   simp [zam,hb]
  ·simp only [go_sem,simprocAttr]
   refine zaA e1 () (by rw [e2];simp [zam,hb]) ?_
   simp only [hnx,go_sem,simprocAttr]
theorem zqX {fv:PV} (l:List HrKind) (p:HrKind→Bool) (b:Bool) (sz:Nat) (hsz:sz=4) (hl:l.length<1000000000) (hf:∀ x,x∈l→App Tryz.prog fv [HrKind.pv x] (.bool (p x))) :
  zae Tryz.prog 267 [.slice sz (l.map HrKind.pv) b,fv] (.bool (l.any p)):=by
 refine zaa zad (fn:=Tryz.f267) (n:=9) (rs:=[.tmp 4]) (by kernel_rfl) rfl rfl rfl zJh (Nat.le_of_ble_eq_true rfl) ?_
 simp only [go_sem,simprocAttr]
 refine zab (ziy l p b sz hsz hl hf) rfl ?_
 simp only [go_sem,simprocAttr]
 rw [zdo]
theorem zvy {fv:PV} (l:List HrRule) (p:HrRule→Bool) (b:Bool) (sz:Nat) (hsz:sz=5) (hl:l.length<1000000000) (hf:∀ x,x∈l→App Tryz.prog fv [HrRule.pv x] (.bool (p x))) :
  zae Tryz.prog 335 [.slice sz (l.map HrRule.pv) b,fv] (.int .i64 (zam p l 0)):=by
 subst hsz
 refine zaa zad (fn:=Tryz.f335) (n:=19) (rs:=[.tmp 4]) (by kernel_rfl) rfl rfl rfl zIB (Nat.le_of_ble_eq_true rfl) ?_
 simp only [go_sem,simprocAttr]
 refine zcr [0,1,7] l hl (τ:=Unit) (fun done rest _=>zam p l 0=zam p rest done.length) (fun done _=>[(8,.p (.int .i64 done.length))]) () rfl ?_ ?_ ?_
 ·simp only [go_sem,simprocAttr]<;>simp
 ·intro _ e2
  simp only [go_sem,simprocAttr]
  rw [e2];rfl
 ·intro done x r _ e1 e2 hx hlt hnx
  obtain ⟨g,first,cap,rfl,hc⟩:=hf x (by rw [e1];simp)
  simp only [hlt,decide_true,hx,HrRule.pv,go_sem,simprocAttr]
  refine zab hc (by simp [HrRule.pv]) ?_
  simp only [go_sem,simprocAttr]
  refine zaH (fun hb=>?_) (fun hb=>?_)
  ·simp only [go_sem,simprocAttr]
   rw [e2]
   simp [zam,hb]
  ·simp only [go_sem,simprocAttr]
   refine zaA e1 () (by rw [e2];simp [zam,hb]) ?_
   simp only [hnx,go_sem,simprocAttr]
theorem zqW {fv:PV} (l:List HrRule) (p:HrRule→Bool) (b:Bool) (sz:Nat) (hsz:sz=5) (hl:l.length<1000000000) (hf:∀ x,x∈l→App Tryz.prog fv [HrRule.pv x] (.bool (p x))) :
  zae Tryz.prog 269 [.slice sz (l.map HrRule.pv) b,fv] (.bool (l.any p)):=by
 refine zaa zad (fn:=Tryz.f269) (n:=9) (rs:=[.tmp 4]) (by kernel_rfl) rfl rfl rfl zJf (Nat.le_of_ble_eq_true rfl) ?_
 simp only [go_sem,simprocAttr]
 refine zab (zvy l p b sz hsz hl hf) rfl ?_
 simp only [go_sem,simprocAttr]
 rw [zdo]
theorem zvx {fv:PV} (l:List Wick) (p:Wick→Bool) (b:Bool) (sz:Nat) (hsz:sz=4) (hl:l.length<1000000000) (hf:∀ x,x∈l→App Tryz.prog fv [Wick.pv x] (.bool (p x))) :
  zae Tryz.prog 334 [.slice sz (l.map Wick.pv) b,fv] (.int .i64 (zam p l 0)):=by
 subst hsz
 refine zaa zad (fn:=Tryz.f334) (n:=19) (rs:=[.tmp 4]) (by kernel_rfl) rfl rfl rfl zIC (Nat.le_of_ble_eq_true rfl) ?_
 simp only [go_sem,simprocAttr]
 refine zcr [0,1,7] l hl (τ:=Unit) (fun done rest _=>zam p l 0=zam p rest done.length) (fun done _=>[(8,.p (.int .i64 done.length))]) () rfl ?_ ?_ ?_
 ·simp only [go_sem,simprocAttr]<;>simp
 ·intro _ e2
  simp only [go_sem,simprocAttr]
  rw [e2];rfl
 ·intro done x r _ e1 e2 hx hlt hnx
  obtain ⟨g,first,cap,rfl,hc⟩:=hf x (by rw [e1];simp)
  simp only [hlt,decide_true,hx,Wick.pv,go_sem,simprocAttr]
  refine zab hc (by simp [Wick.pv]) ?_
  simp only [go_sem,simprocAttr]
  refine zaH (fun hb=>?_) (fun hb=>?_)
  ·simp only [go_sem,simprocAttr]
   rw [e2]
   simp [zam,hb]
  ·simp only [go_sem,simprocAttr]
   refine zaA e1 () (by rw [e2];simp [zam,hb]) ?_
   simp only [hnx,go_sem,simprocAttr]
theorem zqV {fv:PV} (l:List Wick) (p:Wick→Bool) (b:Bool) (sz:Nat) (hsz:sz=4) (hl:l.length<1000000000) (hf:∀ x,x∈l→App Tryz.prog fv [Wick.pv x] (.bool (p x))) :
  zae Tryz.prog 262 [.slice sz (l.map Wick.pv) b,fv] (.bool (l.any p)):=by
 refine zaa zad (fn:=Tryz.f262) (n:=9) (rs:=[.tmp 4]) (by kernel_rfl) rfl rfl rfl zJm (Nat.le_of_ble_eq_true rfl) ?_
 simp only [go_sem,simprocAttr]
 refine zab (zvx l p b sz hsz hl hf) rfl ?_
 simp only [go_sem,simprocAttr]
 rw [zdo]
theorem zkJ {fv:PV} (l:List Wax) (p:Wax→Bool) (b:Bool) (sz:Nat) (hsz:sz=8) (hl:l.length<1000000000) (hf:∀ x,x∈l→App Tryz.prog fv [Wax.pv x] (.bool (p x))) :
  zae Tryz.prog 307 [.slice sz (l.map Wax.pv) b,fv] (.int .i64 (zam p l 0)):=by
 subst hsz
 refine zaa zad (fn:=Tryz.f307) (n:=19) (rs:=[.tmp 4]) (by kernel_rfl) rfl rfl rfl zIO (Nat.le_of_ble_eq_true rfl) ?_
 simp only [go_sem,simprocAttr]
 refine zcr [0,1,7] l hl (τ:=Unit) (fun done rest _=>zam p l 0=zam p rest done.length) (fun done _=>[(8,.p (.int .i64 done.length))]) () rfl ?_ ?_ ?_
 ·simp only [go_sem,simprocAttr]<;>simp
 ·intro _ e2
  simp only [go_sem,simprocAttr]
  rw [e2];rfl
 ·intro done x r _ e1 e2 hx hlt hnx
  obtain ⟨g,first,cap,rfl,hc⟩:=hf x (by rw [e1];simp)
  simp only [hlt,decide_true,hx,Wax.pv,go_sem,simprocAttr]
  refine zab hc (by simp [Wax.pv]) ?_
  simp only [go_sem,simprocAttr]
  refine zaH (fun hb=>?_) (fun hb=>?_)
  ·simp only [go_sem,simprocAttr]
   rw [e2]
   simp [zam,hb]
  ·simp only [go_sem,simprocAttr]
   refine zaA e1 () (by rw [e2];simp [zam,hb]) ?_
   simp only [hnx,go_sem,simprocAttr]
theorem zqU {fv:PV} (l:List Wax) (p:Wax→Bool) (b:Bool) (sz:Nat) (hsz:sz=8) (hl:l.length<1000000000) (hf:∀ x,x∈l→App Tryz.prog fv [Wax.pv x] (.bool (p x))) :
  zae Tryz.prog 264 [.slice sz (l.map Wax.pv) b,fv] (.bool (l.any p)):=by
 refine zaa zad (fn:=Tryz.f264) (n:=9) (rs:=[.tmp 4]) (by kernel_rfl) rfl rfl rfl zJk (Nat.le_of_ble_eq_true rfl) ?_
 simp only [go_sem,simprocAttr]
 refine zab (zkJ l p b sz hsz hl hf) rfl ?_
 simp only [go_sem,simprocAttr]
 rw [zdo]
theorem zvw {fv:PV} (l:List WxProp) (p:WxProp→Bool) (b:Bool) (sz:Nat) (hsz:sz=2) (hl:l.length<1000000000) (hf:∀ x,x∈l→App Tryz.prog fv [WxProp.pv x] (.bool (p x))) :
  zae Tryz.prog 333 [.slice sz (l.map WxProp.pv) b,fv] (.int .i64 (zam p l 0)):=by
 subst hsz
 refine zaa zad (fn:=Tryz.f333) (n:=19) (rs:=[.tmp 4]) (by kernel_rfl) rfl rfl rfl zID (Nat.le_of_ble_eq_true rfl) ?_
 simp only [go_sem,simprocAttr]
 refine zcr [0,1,7] l hl (τ:=Unit) (fun done rest _=>zam p l 0=zam p rest done.length) (fun done _=>[(8,.p (.int .i64 done.length))]) () rfl ?_ ?_ ?_
 ·simp only [go_sem,simprocAttr]<;>simp
 ·intro _ e2
  simp only [go_sem,simprocAttr]
  rw [e2];rfl
 ·intro done x r _ e1 e2 hx hlt hnx
  obtain ⟨g,first,cap,rfl,hc⟩:=hf x (by rw [e1];simp)
  simp only [hlt,decide_true,hx,WxProp.pv,go_sem,simprocAttr]
  refine zab hc (by simp [WxProp.pv]) ?_
  simp only [go_sem,simprocAttr]
  refine zaH (fun hb=>?_) (fun hb=>?_)
  ·simp only [go_sem,simprocAttr]
   rw [e2]
   simp [zam,hb]
  ·simp only [go_sem,simprocAttr]
   refine zaA e1 () (by rw [e2];simp [zam,hb]) ?_
   simp only [hnx,go_sem,simprocAttr]
theorem zqT {fv:PV} (l:List WxProp) (p:WxProp→Bool) (b:Bool) (sz:Nat) (hsz:sz=2) (hl:l.length<1000000000) (hf:∀ x,x∈l→App Tryz.prog fv [WxProp.pv x] (.bool (p x))) :
  zae Tryz.prog 253 [.slice sz (l.map WxProp.pv) b,fv] (.bool (l.any p)):=by
 refine zaa zad (fn:=Tryz.f253) (n:=9) (rs:=[.tmp 4]) (by kernel_rfl) rfl rfl rfl zJv (Nat.le_of_ble_eq_true rfl) ?_
 simp only [go_sem,simprocAttr]
 refine zab (zvw l p b sz hsz hl hf) rfl ?_
 simp only [go_sem,simprocAttr]
 rw [zdo]
theorem zkI {fv:PV} (l:List WxKind) (p:WxKind→Bool) (b:Bool) (sz:Nat) (hsz:sz=2) (hl:l.length<1000000000) (hf:∀ x,x∈l→App Tryz.prog fv [WxKind.pv x] (.bool (p x))) :
  zae Tryz.prog 294 [.slice sz (l.map WxKind.pv) b,fv] (.int .i64 (zam p l 0)):=by
 subst hsz
 refine zaa zad (fn:=Tryz.f294) (n:=19) (rs:=[.tmp 4]) (by kernel_rfl) rfl rfl rfl zIZ (Nat.le_of_ble_eq_true rfl) ?_
 simp only [go_sem,simprocAttr]
 refine zcr [0,1,7] l hl (τ:=Unit) (fun done rest _=>zam p l 0=zam p rest done.length) (fun done _=>[(8,.p (.int .i64 done.length))]) () rfl ?_ ?_ ?_
 ·simp only [go_sem,simprocAttr]<;>simp
 ·intro _ e2
  simp only [go_sem,simprocAttr]
  rw [e2];rfl
 ·intro done x r _ e1 e2 hx hlt hnx
  obtain ⟨g,first,cap,rfl,hc⟩:=hf x (by rw [e1];simp)
  simp only [hlt,decide_true,hx,WxKind.pv,go_sem,simprocAttr]
  refine zab hc (by simp [WxKind.pv]) ?_
  simp only [go_sem,simprocAttr]
  refine zaH (fun hb=>?_) (fun hb=>?_)
  ·simp only [go_sem,simprocAttr]
   rw [e2]
   simp [zam,hb]
  ·simp only [go_sem,simprocAttr]
   refine zaA e1 () (by rw [e2];simp [zam,hb]) ?_
   simp only [hnx,go_sem,simprocAttr]
theorem zqS {fv:PV} (l:List WxKind) (p:WxKind→Bool) (b:Bool) (sz:Nat) (hsz:sz=2) (hl:l.length<1000000000) (hf:∀ x,x∈l→App Tryz.prog fv [WxKind.pv x] (.bool (p x))) :
  zae Tryz.prog 255 [.slice sz (l.map WxKind.pv) b,fv] (.bool (l.any p)):=by
 refine zaa zad (fn:=Tryz.f255) (n:=9) (rs:=[.tmp 4]) (by kernel_rfl) rfl rfl rfl zJt (Nat.le_of_ble_eq_true rfl) ?_
 simp only [go_sem,simprocAttr]
 refine zab (zkI l p b sz hsz hl hf) rfl ?_
 simp only [go_sem,simprocAttr]
 rw [zdo]
theorem zgT {fv:PV} (l:List ClColour) (p:ClColour→Bool) (b:Bool) (sz:Nat) (hsz:sz=4) (hl:l.length<1000000000) (hf:∀ x,x∈l→App Tryz.prog fv [ClColour.pv x] (.bool (p x))) :
  zae Tryz.prog 272 [.slice sz (l.map ClColour.pv) b,fv] (.int .i64 (zam p l 0)):=by
 subst hsz
 refine zaa zad (fn:=Tryz.f272) (n:=19) (rs:=[.tmp 4]) (by kernel_rfl) rfl rfl rfl zJc (Nat.le_of_ble_eq_true rfl) ?_
 simp only [go_sem,simprocAttr]
 refine zcr [0,1,7] l hl (τ:=Unit) (fun done rest _=>zam p l 0=zam p rest done.length) (fun done _=>[(8,.p (.int .i64 done.length))]) () rfl ?_ ?_ ?_
 ·simp only [go_sem,simprocAttr]<;>simp
 ·intro _ e2
  simp only [go_sem,simprocAttr]
  rw [e2];rfl
 ·intro done x r _ e1 e2 hx hlt hnx
  obtain ⟨g,first,cap,rfl,hc⟩:=hf x (by rw [e1];simp)
  simp only [hlt,decide_true,hx,ClColour.pv,go_sem,simprocAttr]
  refine zab hc (by simp [ClColour.pv]) ?_
  simp only [go_sem,simprocAttr]
  refine zaH (fun hb=>?_) (fun hb=>?_)
  ·simp only [go_sem,simprocAttr]
   rw [e2]
   simp [zam,hb]
  ·simp only [go_sem,simprocAttr]
   refine zaA e1 () (by rw [e2];simp [zam,hb]) ?_
   simp only [hnx,go_sem,simprocAttr]
theorem zqR {fv:PV} (l:List ClColour) (p:ClColour→Bool) (b:Bool) (sz:Nat) (hsz:sz=4) (hl:l.length<1000000000) (hf:∀ x,x∈l→App Tryz.prog fv [ClColour.pv x] (.bool (p x))) :
  zae Tryz.prog 191 [.slice sz (l.map ClColour.pv) b,fv] (.bool (l.any p)):=by
 refine zaa zad (fn:=Tryz.f191) (n:=9) (rs:=[.tmp 4]) (by kernel_rfl) rfl rfl rfl zJU (Nat.le_of_ble_eq_true rfl) ?_
 simp only [go_sem,simprocAttr]
 refine zab (zgT l p b sz hsz hl hf) rfl ?_
 simp only [go_sem,simprocAttr]
 rw [zdo]
theorem zj2 {fv:PV} (l:List ChLot) (p:ChLot→Bool) (b:Bool) (sz:Nat) (hsz:sz=4) (hl:l.length<1000000000) (hf:∀ x,x∈l→App Tryz.prog fv [ChLot.pv x] (.bool (p x))) :
  zae Tryz.prog 293 [.slice sz (l.map ChLot.pv) b,fv] (.int .i64 (zam p l 0)):=by
 subst hsz
 refine zaa zad (fn:=Tryz.f293) (n:=19) (rs:=[.tmp 4]) (by kernel_rfl) rfl rfl rfl zI0 (Nat.le_of_ble_eq_true rfl) ?_
 simp only [go_sem,simprocAttr]
 refine zcr [0,1,7] l hl (τ:=Unit) (fun done rest _=>zam p l 0=zam p rest done.length) (fun done _=>[(8,.p (.int .i64 done.length))]) () rfl ?_ ?_ ?_
 ·simp only [go_sem,simprocAttr]<;>simp
 ·intro _ e2
  simp only [go_sem,simprocAttr]
  rw [e2];rfl
 ·intro done x r _ e1 e2 hx hlt hnx
  obtain ⟨g,first,cap,rfl,hc⟩:=hf x (by rw [e1];simp)
  simp only [hlt,decide_true,hx,ChLot.pv,go_sem,simprocAttr]
  refine zab hc (by simp [ChLot.pv]) ?_
  simp only [go_sem,simprocAttr]
  refine zaH (fun hb=>?_) (fun hb=>?_)
  ·simp only [go_sem,simprocAttr]
   rw [e2]
   simp [zam,hb]
  ·simp only [go_sem,simprocAttr]
   refine zaA e1 () (by rw [e2];simp [zam,hb]) ?_
   simp only [hnx,go_sem,simprocAttr]
theorem zp3 {fv:PV} (l:List ChLot) (p:ChLot→Bool) (b:Bool) (sz:Nat) (hsz:sz=4) (hl:l.length<1000000000) (hf:∀ x,x∈l→App Tryz.prog fv [ChLot.pv x] (.bool (p x))) :
  zae Tryz.prog 200 [.slice sz (l.map ChLot.pv) b,fv] (.bool (l.any p)):=by
 refine zaa zad (fn:=Tryz.f200) (n:=9) (rs:=[.tmp 4]) (by kernel_rfl) rfl rfl rfl zJN (Nat.le_of_ble_eq_true rfl) ?_
 simp only [go_sem,simprocAttr]
 refine zab (zj2 l p b sz hsz hl hf) rfl ?_
 simp only [go_sem,simprocAttr]
 rw [zdo]
theorem zj1 {fv:PV} (l:List ChBatch) (p:ChBatch→Bool) (b:Bool) (sz:Nat) (hsz:sz=4) (hl:l.length<1000000000) (hf:∀ x,x∈l→App Tryz.prog fv [ChBatch.pv x] (.bool (p x))) :
  zae Tryz.prog 298 [.slice sz (l.map ChBatch.pv) b,fv] (.int .i64 (zam p l 0)):=by
 subst hsz
 refine zaa zad (fn:=Tryz.f298) (n:=19) (rs:=[.tmp 4]) (by kernel_rfl) rfl rfl rfl zIV (Nat.le_of_ble_eq_true rfl) ?_
 simp only [go_sem,simprocAttr]
 refine zcr [0,1,7] l hl (τ:=Unit) (fun done rest _=>zam p l 0=zam p rest done.length) (fun done _=>[(8,.p (.int .i64 done.length))]) () rfl ?_ ?_ ?_
 ·simp only [go_sem,simprocAttr]<;>simp
 ·intro _ e2
  simp only [go_sem,simprocAttr]
  rw [e2];rfl
 ·intro done x r _ e1 e2 hx hlt hnx
  obtain ⟨g,first,cap,rfl,hc⟩:=hf x (by rw [e1];simp)
  simp only [hlt,decide_true,hx,ChBatch.pv,go_sem,simprocAttr]
  refine zab hc (by simp [ChBatch.pv]) ?_
  simp only [go_sem,simprocAttr]
  refine zaH (fun hb=>?_) (fun hb=>?_)
  ·simp only [go_sem,simprocAttr]
   rw [e2]
   simp [zam,hb]
  ·simp only [go_sem,simprocAttr]
   refine zaA e1 () (by rw [e2];simp [zam,hb]) ?_
   simp only [hnx,go_sem,simprocAttr]
theorem zp2 {fv:PV} (l:List ChBatch) (p:ChBatch→Bool) (b:Bool) (sz:Nat) (hsz:sz=4) (hl:l.length<1000000000) (hf:∀ x,x∈l→App Tryz.prog fv [ChBatch.pv x] (.bool (p x))) :
  zae Tryz.prog 205 [.slice sz (l.map ChBatch.pv) b,fv] (.bool (l.any p)):=by
 refine zaa zad (fn:=Tryz.f205) (n:=9) (rs:=[.tmp 4]) (by kernel_rfl) rfl rfl rfl zJJ (Nat.le_of_ble_eq_true rfl) ?_
 simp only [go_sem,simprocAttr]
 refine zab (zj1 l p b sz hsz hl hf) rfl ?_
 simp only [go_sem,simprocAttr]
 rw [zdo]
theorem zy5 (l:List Int) (b:Bool) (hl:l≠[]) (hlen:l.length<1000000000):zep Tryz.prog 317 [.slice 1 (l.map zay) b] (.slice 1 (l.map zay) false):=by
 refine zdD zad (fn:=Tryz.f317) (n:=8) (rs:=[.tmp 2]) (by kernel_rfl) rfl rfl rfl zIF (Nat.le_of_ble_eq_true rfl) ?_
 have h1:¬ (l.map zay=[]):=by simpa using hl
 have h2:l.length≤zar:=by simp [zar];omega
 have h3:¬ ((l.map zay).map AV.p=[]):=by simpa using hl
 simp only [h1,h2,h3,go_sem,simprocAttr]
theorem zAF (a b:Nat) (h:a+b<1000000000):IntKind.i64.wrap (Int.fdiv (IntKind.u64.wrap ((a:Int)+(b:Int))) 2)=(((a+b) / 2:Nat):Int):=by
 have e:IntKind.u64.wrap ((a:Int)+(b:Int))=((a+b:Nat):Int):=by
  unfold IntKind.wrap IntKind.signed IntKind.bits
  simp
  omega
 rw [e]
 have e2:Int.fdiv ((a+b:Nat):Int) 2=(((a+b) / 2:Nat):Int):=by
  rw [Int.fdiv_eq_ediv_of_nonneg _ (by omega)]
  omega
 rw [e2]
 exact zb3 (by omega) (by simp [zar];omega)
theorem zEn {fv:PV} (n:Nat) (p:Nat→Bool) (hn:n<100000000) (hf:∀ i,i<n→App Tryz.prog fv [.int .i64 i] (.bool (p i))) (r:Nat) (hr:r≤n) (h1:∀ i,i<r→p i=false) (h2:∀ i,r≤i→i<n→p i=true) :
  zae Tryz.prog 410 [.int .i64 n,fv] (.int .i64 r):=by
 refine zaa zad (fn:=Tryz.f410) (n:=26) (rs:=[.tmp 4]) (by kernel_rfl) rfl rfl rfl zHL (Nat.le_of_ble_eq_true rfl) ?_
 simp only [go_sem,simprocAttr]
 refine zEQ [1] (σ:=Nat×Nat) (fun s=>s.1≤r∧r≤s.2∧s.2≤n) (fun s=>s.2-s.1) (fun s=>[(5,.p (.int .i64 s.1)),(6,.p (.int .i64 s.2))]) (0,n) ⟨by omega,hr,by omega⟩ ?_ ?_
 ·simp only [go_sem,simprocAttr]
 ·rintro ⟨i,j⟩ ⟨g1,g2,g3⟩
  dsimp only at g1 g2 g3
  simp only [go_sem,simprocAttr]
  refine zaH (fun hb=>?_) (fun hb=>?_)
  ·have hij:i<j:=by simpa using hb
   have hw:IntKind.i64.wrap ((i:Int)+(j:Int))=((i:Int)+(j:Int)):=zb3 (by omega) (by simp [zar];omega)
   have hh:=zAF i j (by omega)
   have hp2:(2:Int)^min 1 64=2:=rfl
   obtain ⟨g,first,cap,rfl,hc⟩:=hf ((i+j) / 2) (by omega)
   simp only [hw,zcS,IntKind.bits,hp2,hh,go_sem,simprocAttr]
   refine zab hc (by simp) ?_
   simp only [go_sem,simprocAttr]
   cases hpv:p ((i+j) / 2)
   ·simp only [go_sem,simprocAttr]
    have hlt:¬ (r≤(i+j) / 2):=fun h=>by rw [h2 _ h (by omega)] at hpv;cases hpv
    refine zb5 ((i+j) / 2+1,j) ⟨by omega,g2,g3⟩ (by dsimp only;omega) ?_
    have hnx:IntKind.i64.wrap ((((i+j) / 2:Nat):Int)+1)=(((i+j) / 2+1:Nat):Int):=za9 (by omega) (by simp [zar];omega) (by omega)
    simp only [hnx,go_sem,simprocAttr]
   ·simp only [go_sem,simprocAttr]
    have hlt:r≤(i+j) / 2:=by
     rcases Nat.lt_or_ge ((i+j) / 2) r with h | h
     ·rw [h1 _ h] at hpv;cases hpv
     ·exact h
    refine zb5 (i,(i+j) / 2) ⟨g1,hlt,by omega⟩ (by dsimp only;omega) ?_
    simp only [go_sem,simprocAttr]
  ·have hij:¬ (i<j):=by simpa using hb
   have:i=r:=by omega
   subst this
   simp only [go_sem,simprocAttr]
end Abs
end Go.Proofs.YtahlnclapingiaaGreatDoor
