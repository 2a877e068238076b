/-
  THE DATA OF CHAPTER 09, as plain Lean, and how it stands as immutable values. Definitions.
-/
import Derived.Test.YtdellinghbppgaaGreatDoorLibData
namespace Go.Proofs.YtdellinghbppgaaGreatDoor
namespace Abs

structure HrKind where
  name : ByteArray
  weight : Span
  rest : Int
structure HrRule where
  name : ByteArray
  minutes : Span
  weight : Span
structure HrMark where
  minute : Int
  weight : Int
  deriving DecidableEq
structure HrTest where
  kind : Int
  error : Int
  marks : List HrMark
structure HrShop where
  kinds : List HrKind
  rules : List HrRule
  margin : Int
structure HrBox where
  kind : Int
  hours : Int
def HrKind.pv (k : HrKind) : PV := .agg [.str k.name, .int .i64 k.weight.lo, .int .i64 k.weight.hi, .int .i64 k.rest]
def HrRule.pv (r : HrRule) : PV := .agg [.str r.name, .int .i64 r.minutes.lo, .int .i64 r.minutes.hi, .int .i64 r.weight.lo, .int .i64 r.weight.hi]
def HrMark.pv (m : HrMark) : PV := .agg [.int .i64 m.minute, .int .i64 m.weight]
def HrTest.pv (t : HrTest) : PV := .agg [.int .i64 t.kind, .int .i64 t.error, .slice 2 (t.marks.map HrMark.pv) false]
def HrShop.pv (s : HrShop) : PV := .agg [.slice 4 (s.kinds.map HrKind.pv) false, .slice 5 (s.rules.map HrRule.pv) false, .int .i64 s.margin]
def HrBox.pv (b : HrBox) : PV := .agg [.int .i64 b.kind, .int .i64 b.hours]
attribute [go_sem] HrKind.pv HrRule.pv HrMark.pv HrTest.pv HrShop.pv HrBox.pv
end Abs
end Go.Proofs.YtdellinghbppgaaGreatDoor
