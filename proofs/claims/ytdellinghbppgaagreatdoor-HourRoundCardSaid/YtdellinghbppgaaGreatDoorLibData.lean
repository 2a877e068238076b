/-
  THE DATA THAT LAYERS SHARE, as plain Lean, and how it stands as immutable values. Definitions.
-/
import Derived.Test.YtdellinghbppgaaGreatDoorAbsDef
namespace Go.Proofs.YtdellinghbppgaaGreatDoor
namespace Abs

structure Span where
  lo : Int
  hi : Int
def intPV (n : Int) : PV := .int .i64 n
def Span.pv (s : Span) : PV := .agg [.int .i64 s.lo, .int .i64 s.hi]

attribute [go_sem] intPV Span.pv
end Abs
end Go.Proofs.YtdellinghbppgaaGreatDoor
