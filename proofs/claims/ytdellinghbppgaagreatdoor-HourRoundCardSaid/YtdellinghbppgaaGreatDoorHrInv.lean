/-
  WHAT THE ARGUMENTS OF THE LAWS OF LAYER 9 LOOK LIKE. No conditions beyond the theorems' own.
-/
import Derived.Test.YtdellinghbppgaaGreatDoorHrLaw0
import Derived.Test.YtdellinghbppgaaGreatDoorAbsInv
namespace Go.Proofs.YtdellinghbppgaaGreatDoor
namespace Abs
set_option linter.unusedVariables false
set_option maxRecDepth 100000
theorem ofCells_true (cs : List PV) : ofCells true cs = .agg cs := by
  cases cs with
  | nil => rfl
  | cons a l => cases l <;> rfl
theorem invInt {n : Nat} {cs : List PV} (h : PVok Tryz.prog (n + 1) 3 cs) : ∃ m, cs = [.int .i64 m] := by
  obtain ⟨m, h, _⟩ := pv_int (k := .i64) (by kernel_rfl) h; exact ⟨m, h⟩
theorem invSpan {n : Nat} {cs : List PV} (h : PVok Tryz.prog (n + 2) 47 cs) : ∃ s : Span, cs = [.int .i64 s.lo, .int .i64 s.hi] := by
  obtain ⟨a, _, rfl, ha, b, _, rfl, hb, rfl⟩ := pv_struct (ts := [3, 3]) (by kernel_rfl) h
  obtain ⟨x, rfl⟩ := invInt ha
  obtain ⟨y, rfl⟩ := invInt hb
  exact ⟨⟨x, y⟩, rfl⟩
theorem invHrMark {n : Nat} {cs : List PV} (h : PVok Tryz.prog (n + 2) 66 cs) : ∃ s : HrMark, .agg cs = s.pv := by
  obtain ⟨a, _, rfl, ha, b, _, rfl, hb, rfl⟩ := pv_struct (ts := [3, 3]) (by kernel_rfl) h
  obtain ⟨x, rfl⟩ := invInt ha
  obtain ⟨y, rfl⟩ := invInt hb
  exact ⟨⟨x, y⟩, rfl⟩
theorem invHrMarks {n : Nat} {cs : List PV} (h : PVok Tryz.prog (n + 3) 31 cs) : ∃ l : List HrMark, cs = [.slice 2 (l.map HrMark.pv) false] := by
  obtain ⟨xs, rfl, _, hx⟩ := pv_list (e := 66) (z := 2) (g := true) (by kernel_rfl) h
  obtain ⟨l, rfl⟩ := list_of HrMark.pv (xs := xs) fun x hm => by
    obtain ⟨es, rfl, h⟩ := hx x hm
    rw [ofCells_true]; exact invHrMark h
  exact ⟨l, rfl⟩
theorem invHrBox {n : Nat} {cs : List PV} (h : PVok Tryz.prog (n + 2) 87 cs) : ∃ s : HrBox, .agg cs = s.pv := by
  obtain ⟨a, _, rfl, ha, b, _, rfl, hb, rfl⟩ := pv_struct (ts := [3, 3]) (by kernel_rfl) h
  obtain ⟨x, rfl⟩ := invInt ha
  obtain ⟨y, rfl⟩ := invInt hb
  exact ⟨⟨x, y⟩, rfl⟩
theorem invHrBoxs {n : Nat} {cs : List PV} (h : PVok Tryz.prog (n + 3) 84 cs) : ∃ l : List HrBox, cs = [.slice 2 (l.map HrBox.pv) false] := by
  obtain ⟨xs, rfl, _, hx⟩ := pv_list (e := 87) (z := 2) (g := true) (by kernel_rfl) h
  obtain ⟨l, rfl⟩ := list_of HrBox.pv (xs := xs) fun x hm => by
    obtain ⟨es, rfl, h⟩ := hx x hm
    rw [ofCells_true]; exact invHrBox h
  exact ⟨l, rfl⟩
theorem invHrTest {n : Nat} {cs : List PV} (h : PVok Tryz.prog (n + 4) 33 cs) : ∃ t : HrTest, .agg cs = t.pv := by
  obtain ⟨a, _, rfl, ha, b, _, rfl, hb, c, _, rfl, hc, rfl⟩ := pv_struct (ts := [3, 3, 31]) (by kernel_rfl) h
  obtain ⟨x, rfl⟩ := invInt ha
  obtain ⟨y, rfl⟩ := invInt hb
  obtain ⟨z, rfl⟩ := invHrMarks hc
  exact ⟨⟨x, y, z⟩, rfl⟩
theorem invHrTests {n : Nat} {cs : List PV} (h : PVok Tryz.prog (n + 5) 50 cs) : ∃ l : List HrTest, cs = [.slice 3 (l.map HrTest.pv) false] := by
  obtain ⟨xs, rfl, _, hx⟩ := pv_list (e := 33) (z := 3) (g := true) (by kernel_rfl) h
  obtain ⟨l, rfl⟩ := list_of HrTest.pv (xs := xs) fun x hm => by
    obtain ⟨es, rfl, h⟩ := hx x hm
    rw [ofCells_true]; exact invHrTest h
  exact ⟨l, rfl⟩
theorem invHrKind {n : Nat} {cs : List PV} (h : PVok Tryz.prog (n + 3) 74 cs) : ∃ k : HrKind, .agg cs = k.pv := by
  obtain ⟨a, _, rfl, ha, b, _, rfl, hb, c, _, rfl, hc, rfl⟩ := pv_struct (ts := [9, 47, 3]) (by kernel_rfl) h
  obtain ⟨x, rfl, _⟩ := pv_str (by kernel_rfl) ha
  obtain ⟨y, rfl⟩ := invSpan hb
  obtain ⟨z, rfl⟩ := invInt hc
  exact ⟨⟨x, y, z⟩, rfl⟩
theorem invHrRule {n : Nat} {cs : List PV} (h : PVok Tryz.prog (n + 3) 78 cs) : ∃ k : HrRule, .agg cs = k.pv := by
  obtain ⟨a, _, rfl, ha, b, _, rfl, hb, c, _, rfl, hc, rfl⟩ := pv_struct (ts := [9, 47, 47]) (by kernel_rfl) h
  obtain ⟨x, rfl, _⟩ := pv_str (by kernel_rfl) ha
  obtain ⟨y, rfl⟩ := invSpan hb
  obtain ⟨z, rfl⟩ := invSpan hc
  exact ⟨⟨x, y, z⟩, rfl⟩
theorem invHrKinds {n : Nat} {cs : List PV} (h : PVok Tryz.prog (n + 4) 22 cs) : ∃ l : List HrKind, cs = [.slice 4 (l.map HrKind.pv) false] := by
  obtain ⟨xs, rfl, _, hx⟩ := pv_list (e := 74) (z := 4) (g := true) (by kernel_rfl) h
  obtain ⟨l, rfl⟩ := list_of HrKind.pv (xs := xs) fun x hm => by
    obtain ⟨es, rfl, h⟩ := hx x hm
    rw [ofCells_true]; exact invHrKind h
  exact ⟨l, rfl⟩
theorem invHrRules {n : Nat} {cs : List PV} (h : PVok Tryz.prog (n + 4) 23 cs) : ∃ l : List HrRule, cs = [.slice 5 (l.map HrRule.pv) false] := by
  obtain ⟨xs, rfl, _, hx⟩ := pv_list (e := 78) (z := 5) (g := true) (by kernel_rfl) h
  obtain ⟨l, rfl⟩ := list_of HrRule.pv (xs := xs) fun x hm => by
    obtain ⟨es, rfl, h⟩ := hx x hm
    rw [ofCells_true]; exact invHrRule h
  exact ⟨l, rfl⟩
theorem shop_of {v : PV} (h : valOk Tryz.prog 8 25 v) : ∃ s : HrShop, v = s.pv := by
  obtain ⟨cs, rfl, h⟩ := h
  rw [show (isAggT Tryz.prog 25 == some true) = true by kernel_rfl, ofCells_true]
  obtain ⟨a, _, rfl, ha, b, _, rfl, hb, c, _, rfl, hc, rfl⟩ := pv_struct (ts := [22, 23, 3]) (by kernel_rfl) h
  obtain ⟨x, rfl⟩ := invHrKinds ha
  obtain ⟨y, rfl⟩ := invHrRules hb
  obtain ⟨z, rfl⟩ := invInt hc
  exact ⟨⟨x, y, z⟩, rfl⟩
theorem test_of {v : PV} (h : valOk Tryz.prog 8 33 v) : ∃ t : HrTest, v = t.pv := by
  obtain ⟨cs, rfl, h⟩ := h
  rw [show (isAggT Tryz.prog 33 == some true) = true by kernel_rfl, ofCells_true]
  exact invHrTest h
theorem tests_of {v : PV} (h : valOk Tryz.prog 8 50 v) : ∃ l : List HrTest, v = .slice 3 (l.map HrTest.pv) false := by
  obtain ⟨cs, rfl, h⟩ := h
  rw [show (isAggT Tryz.prog 50 == some true) = false by kernel_rfl]
  obtain ⟨l, rfl⟩ := invHrTests h
  exact ⟨l, rfl⟩
theorem boxes_of {v : PV} (h : valOk Tryz.prog 8 84 v) : ∃ l : List HrBox, v = .slice 2 (l.map HrBox.pv) false := by
  obtain ⟨cs, rfl, h⟩ := h
  rw [show (isAggT Tryz.prog 84 == some true) = false by kernel_rfl]
  obtain ⟨l, rfl⟩ := invHrBoxs h
  exact ⟨l, rfl⟩
theorem str_of {v : PV} (h : valOk Tryz.prog 8 9 v) : ∃ x : List UInt8, v = .str (bs x) := by
  obtain ⟨cs, rfl, h⟩ := h
  rw [show (isAggT Tryz.prog 9 == some true) = false by kernel_rfl]
  obtain ⟨s, rfl, _⟩ := pv_str (by kernel_rfl) h
  exact ⟨s.data.toList, by rw [bs_eta]; rfl⟩
theorem byte_of {v : PV} (h : valOk Tryz.prog 8 5 v) : ∃ k, v = .int .u8 k ∧ 0 ≤ k ∧ k ≤ 255 := by
  obtain ⟨cs, rfl, h⟩ := h
  rw [show (isAggT Tryz.prog 5 == some true) = false by kernel_rfl]
  obtain ⟨k, rfl, h1, h2⟩ := pv_int (k := .u8) (by kernel_rfl) h
  exact ⟨k, rfl, h1, h2⟩
end Abs
end Go.Proofs.YtdellinghbppgaaGreatDoor
