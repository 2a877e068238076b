/-
  THE DATA OF LAYER 2 (blend), as plain Lean, and how it stands as immutable values. Definitions.
-/
import Derived.Test.YthekmbikolpmlaaLibData
namespace Go.Proofs.Ythekmbikolpmlaa
namespace Abs

structure BdPoint where
  parts : Int
  add : Int
structure BdWax where
  name : ByteArray
  price : Int
  melt : Span
  shrink : Span
  curve : List BdPoint
structure BdWish where
  parts : List Span
  melt : Span
  shrink : Span
structure BdLot where
  melt : Int
  shrink : Int

def BdPoint.pv (p : BdPoint) : PV := .agg [.int .i64 p.parts, .int .i64 p.add]
def BdWax.pv (x : BdWax) : PV := .agg [.str x.name, .int .i64 x.price, .int .i64 x.melt.lo, .int .i64 x.melt.hi, .int .i64 x.shrink.lo, .int .i64 x.shrink.hi, .slice 2 (x.curve.map BdPoint.pv) false]
def BdWish.pv (w : BdWish) : PV := .agg [.slice 2 (w.parts.map Span.pv) false, .int .i64 w.melt.lo, .int .i64 w.melt.hi, .int .i64 w.shrink.lo, .int .i64 w.shrink.hi]
def BdLot.pv (x : BdLot) : PV := .agg [.int .i64 x.melt, .int .i64 x.shrink]
def bdWaxes (l : List BdWax) : PV := .slice 7 (l.map BdWax.pv) false
def ints (l : List Int) : PV := .slice 1 (l.map intPV) false
def bdLots (l : List BdLot) : PV := .slice 2 (l.map BdLot.pv) false

attribute [go_sem] BdPoint.pv BdWax.pv BdWish.pv BdLot.pv bdWaxes ints bdLots
end Abs
end Go.Proofs.Ythekmbikolpmlaa
