/-
  THE DATA OF THE LAYER, as plain Lean, and how it stands as immutable values. Definitions.
-/
import Derived.Test.YtdgmmijimclooaaAbsDef
namespace Go.Proofs.Ytdgmmijimclooaa
namespace Abs

structure Span where
  lo : Int
  hi : Int
structure Wick where
  name : ByteArray
  threads : Int
  pull : Span
structure Wax where
  name : ByteArray
  flow : Span
  rise : Span
  spread : Span
  chill : Int
structure Shop where
  wicks : List Wick
  waxes : List Wax
  flame : Span
  pool : Span
structure Candle where
  wax : Int
  diameter : Int
  draught : Int
  cold : Span
structure Truth where
  pull : Int
  flow : Int
  rise : Int
  spread : Int
  draught : Int
  cold : Int
structure Burn where
  rate : Int
  flame : Int
  pool : Int

def intPV (n : Int) : PV := .int .i64 n
def Span.pv (s : Span) : PV := .agg [.int .i64 s.lo, .int .i64 s.hi]
def Wick.pv (x : Wick) : PV := .agg [.str x.name, .int .i64 x.threads, .int .i64 x.pull.lo, .int .i64 x.pull.hi]
def Wax.pv (x : Wax) : PV := .agg [.str x.name, .int .i64 x.flow.lo, .int .i64 x.flow.hi, .int .i64 x.rise.lo, .int .i64 x.rise.hi, .int .i64 x.spread.lo, .int .i64 x.spread.hi, .int .i64 x.chill]
def Shop.pv (s : Shop) : PV := .agg [.slice 4 (s.wicks.map Wick.pv) false, .slice 8 (s.waxes.map Wax.pv) false, .int .i64 s.flame.lo, .int .i64 s.flame.hi, .int .i64 s.pool.lo, .int .i64 s.pool.hi]
def Candle.pv (c : Candle) : PV := .agg [.int .i64 c.wax, .int .i64 c.diameter, .int .i64 c.draught, .int .i64 c.cold.lo, .int .i64 c.cold.hi]
def Truth.pv (t : Truth) : PV := .agg [.int .i64 t.pull, .int .i64 t.flow, .int .i64 t.rise, .int .i64 t.spread, .int .i64 t.draught, .int .i64 t.cold]
def Burn.pv (b : Burn) : PV := .agg [.int .i64 b.rate, .int .i64 b.flame, .int .i64 b.pool]

attribute [go_sem] intPV Span.pv Wick.pv Wax.pv Shop.pv Candle.pv Truth.pv Burn.pv
end Abs
end Go.Proofs.Ytdgmmijimclooaa
