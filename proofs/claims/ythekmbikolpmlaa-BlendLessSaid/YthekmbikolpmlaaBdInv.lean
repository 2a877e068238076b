/-
  WHAT THE ARGUMENTS OF THE LAWS OF LAYER 2 LOOK LIKE. No conditions beyond the theorems' own.
-/
import Derived.Test.YthekmbikolpmlaaBdLaw0
namespace Go.Proofs.Ythekmbikolpmlaa
namespace Abs
set_option maxRecDepth 100000
theorem ofCells_true (cs : List PV) : ofCells true cs = .agg cs := by
  cases cs with
  | nil => rfl
  | cons a l => cases l <;> rfl
theorem invInt {n : Nat} {cs : List PV} (h : PVok Try.prog (n + 1) 3 cs) : ∃ m, cs = [.int .i64 m] := by
  obtain ⟨m, h, _⟩ := pv_int (k := .i64) (by kernel_rfl) h; exact ⟨m, h⟩
theorem invSpan {n : Nat} {cs : List PV} (h : PVok Try.prog (n + 2) 36 cs) : ∃ s : Span, cs = [.int .i64 s.lo, .int .i64 s.hi] := by
  obtain ⟨a, _, rfl, ha, b, _, rfl, hb, rfl⟩ := pv_struct (ts := [3, 3]) (by kernel_rfl) h
  obtain ⟨x, rfl⟩ := invInt ha
  obtain ⟨y, rfl⟩ := invInt hb
  exact ⟨⟨x, y⟩, rfl⟩
theorem invBdPoint {n : Nat} {cs : List PV} (h : PVok Try.prog (n + 2) 84 cs) : ∃ s : BdPoint, .agg cs = s.pv := by
  obtain ⟨a, _, rfl, ha, b, _, rfl, hb, rfl⟩ := pv_struct (ts := [3, 3]) (by kernel_rfl) h
  obtain ⟨x, rfl⟩ := invInt ha
  obtain ⟨y, rfl⟩ := invInt hb
  exact ⟨⟨x, y⟩, rfl⟩
theorem invBdLot {n : Nat} {cs : List PV} (h : PVok Try.prog (n + 2) 102 cs) : ∃ s : BdLot, .agg cs = s.pv := by
  obtain ⟨a, _, rfl, ha, b, _, rfl, hb, rfl⟩ := pv_struct (ts := [3, 3]) (by kernel_rfl) h
  obtain ⟨x, rfl⟩ := invInt ha
  obtain ⟨y, rfl⟩ := invInt hb
  exact ⟨⟨x, y⟩, rfl⟩
theorem invInts {n : Nat} {cs : List PV} (h : PVok Try.prog (n + 2) 31 cs) : ∃ l : List Int, cs = [ints l] := by
  obtain ⟨xs, rfl, _, hx⟩ := pv_list (e := 3) (z := 1) (g := false) (by kernel_rfl) h
  obtain ⟨l, rfl⟩ := list_of intPV (xs := xs) fun x hm => by
    obtain ⟨es, rfl, h⟩ := hx x hm
    obtain ⟨m, rfl⟩ := invInt h
    exact ⟨m, rfl⟩
  exact ⟨l, rfl⟩
theorem invU16s {n : Nat} {cs : List PV} (h : PVok Try.prog (n + 2) 58 cs) : ∃ l : List Int, cs = [u16s l] ∧ U16s l := by
  obtain ⟨xs, rfl, hlen, hx⟩ := pv_list (e := 124) (z := 1) (g := false) (by kernel_rfl) h
  have key : ∃ l : List Int, xs = l.map u16 ∧ ∀ v, v ∈ l → 0 ≤ v ∧ v ≤ 65535 := by
    clear hlen h
    induction xs with
    | nil => exact ⟨[], rfl, by simp⟩
    | cons x xs ih =>
      obtain ⟨l, rfl, hl⟩ := ih fun y hy => hx y (by simp [hy])
      obtain ⟨es, rfl, h⟩ := hx x (by simp)
      obtain ⟨m, rfl, h1, h2⟩ := pv_int (k := .u16) (by kernel_rfl) h
      refine ⟨m :: l, rfl, fun v hv => ?_⟩
      rcases List.mem_cons.1 hv with rfl | hv
      · exact ⟨h1, h2⟩
      · exact hl v hv
  obtain ⟨l, rfl, hl⟩ := key
  refine ⟨l, rfl, hl, ?_⟩
  simp [maxLen] at hlen
  omega
theorem invSpans {n : Nat} {cs : List PV} (h : PVok Try.prog (n + 3) 44 cs) : ∃ l : List Span, cs = [.slice 2 (l.map Span.pv) false] := by
  obtain ⟨xs, rfl, _, hx⟩ := pv_list (e := 36) (z := 2) (g := true) (by kernel_rfl) h
  obtain ⟨l, rfl⟩ := list_of Span.pv (xs := xs) fun x hm => by
    obtain ⟨es, rfl, h⟩ := hx x hm
    rw [ofCells_true]
    obtain ⟨s, rfl⟩ := invSpan h
    exact ⟨s, rfl⟩
  exact ⟨l, rfl⟩
theorem invBdPoints {n : Nat} {cs : List PV} (h : PVok Try.prog (n + 3) 76 cs) : ∃ l : List BdPoint, cs = [.slice 2 (l.map BdPoint.pv) false] := by
  obtain ⟨xs, rfl, _, hx⟩ := pv_list (e := 84) (z := 2) (g := true) (by kernel_rfl) h
  obtain ⟨l, rfl⟩ := list_of BdPoint.pv (xs := xs) fun x hm => by
    obtain ⟨es, rfl, h⟩ := hx x hm
    rw [ofCells_true]; exact invBdPoint h
  exact ⟨l, rfl⟩
theorem invBdLots {n : Nat} {cs : List PV} (h : PVok Try.prog (n + 3) 32 cs) : ∃ l : List BdLot, cs = [.slice 2 (l.map BdLot.pv) false] := by
  obtain ⟨xs, rfl, _, hx⟩ := pv_list (e := 102) (z := 2) (g := true) (by kernel_rfl) h
  obtain ⟨l, rfl⟩ := list_of BdLot.pv (xs := xs) fun x hm => by
    obtain ⟨es, rfl, h⟩ := hx x hm
    rw [ofCells_true]; exact invBdLot h
  exact ⟨l, rfl⟩
theorem invBdWax {n : Nat} {cs : List PV} (h : PVok Try.prog (n + 4) 78 cs) : ∃ w : BdWax, .agg cs = w.pv := by
  obtain ⟨a, _, rfl, ha, b, _, rfl, hb, c, _, rfl, hc, d, _, rfl, hd, e, _, rfl, he, rfl⟩ := pv_struct (ts := [9, 3, 36, 36, 76]) (by kernel_rfl) h
  obtain ⟨x, rfl, _⟩ := pv_str (by kernel_rfl) ha
  obtain ⟨y, rfl⟩ := invInt hb
  obtain ⟨z, rfl⟩ := invSpan hc
  obtain ⟨u, rfl⟩ := invSpan hd
  obtain ⟨v, rfl⟩ := invBdPoints he
  exact ⟨⟨x, y, z, u, v⟩, rfl⟩
theorem waxes_of {v : PV} (h : valOk Try.prog 8 22 v) : ∃ l : List BdWax, v = bdWaxes l := by
  obtain ⟨cs, rfl, h⟩ := h
  rw [show (isAggT Try.prog 22 == some true) = false by kernel_rfl]
  obtain ⟨xs, rfl, _, hx⟩ := pv_list (e := 78) (z := 7) (g := true) (by kernel_rfl) h
  obtain ⟨l, rfl⟩ := list_of BdWax.pv (xs := xs) fun x hm => by
    obtain ⟨es, rfl, h⟩ := hx x hm
    rw [ofCells_true]; exact invBdWax h
  exact ⟨l, rfl⟩
theorem two_of {v : PV} (h : valOk Try.prog 8 23 v) : ∃ a b, v = .agg [.int .i64 a, .int .i64 b] := by
  obtain ⟨cs, rfl, h⟩ := h
  rw [show (isAggT Try.prog 23 == some true) = true by kernel_rfl, ofCells_true]
  obtain ⟨l, hl, rfl, _⟩ := arr_ints (k := .i64) (t := 3) (by kernel_rfl) (pv_arr (m := 2) (e := 3) (by kernel_rfl) h)
  match l, hl with
  | [x, y], _ => exact ⟨x, y, rfl⟩
theorem ints_of {v : PV} (h : valOk Try.prog 8 31 v) : ∃ l, v = ints l := by
  obtain ⟨cs, rfl, h⟩ := h
  rw [show (isAggT Try.prog 31 == some true) = false by kernel_rfl]
  obtain ⟨l, rfl⟩ := invInts h
  exact ⟨l, rfl⟩
theorem u16s_of {v : PV} (h : valOk Try.prog 8 58 v) : ∃ l, v = u16s l ∧ U16s l := by
  obtain ⟨cs, rfl, h⟩ := h
  rw [show (isAggT Try.prog 58 == some true) = false by kernel_rfl]
  obtain ⟨l, rfl, hl⟩ := invU16s h
  exact ⟨l, rfl, hl⟩
theorem batch_of {v : PV} (h : valOk Try.prog 8 34 v) : ∃ (y : List BdLot) (g : Int), v = .agg [bdLots y, .int .i64 g] := by
  obtain ⟨cs, rfl, h⟩ := h
  rw [show (isAggT Try.prog 34 == some true) = true by kernel_rfl, ofCells_true]
  obtain ⟨a, _, rfl, ha, b, _, rfl, hb, rfl⟩ := pv_struct (ts := [32, 3]) (by kernel_rfl) h
  obtain ⟨y, rfl⟩ := invBdLots ha
  obtain ⟨g, rfl⟩ := invInt hb
  exact ⟨y, g, rfl⟩
theorem wish_ofv {v : PV} (h : valOk Try.prog 8 46 v) : ∃ w : BdWish, v = w.pv := by
  obtain ⟨cs, rfl, h⟩ := h
  rw [show (isAggT Try.prog 46 == some true) = true by kernel_rfl, ofCells_true]
  obtain ⟨a, _, rfl, ha, b, _, rfl, hb, c, _, rfl, hc, rfl⟩ := pv_struct (ts := [44, 36, 36]) (by kernel_rfl) h
  obtain ⟨x, rfl⟩ := invSpans ha
  obtain ⟨y, rfl⟩ := invSpan hb
  obtain ⟨z, rfl⟩ := invSpan hc
  exact ⟨⟨x, y, z⟩, rfl⟩
theorem asked_of {v : PV} (h : valOk Try.prog 8 48 v) : ∃ (r : List Int) (k : Int), v = .agg [ints r, .int .i64 k] := by
  obtain ⟨cs, rfl, h⟩ := h
  rw [show (isAggT Try.prog 48 == some true) = true by kernel_rfl, ofCells_true]
  obtain ⟨a, _, rfl, ha, b, _, rfl, hb, rfl⟩ := pv_struct (ts := [31, 3]) (by kernel_rfl) h
  obtain ⟨y, rfl⟩ := invInts ha
  obtain ⟨g, rfl⟩ := invInt hb
  exact ⟨y, g, rfl⟩
theorem pair_of {v : PV} (h : valOk Try.prog 8 64 v) : ∃ x y, v = .agg [u16s x, u16s y] ∧ U16s x ∧ U16s y := by
  obtain ⟨cs, rfl, h⟩ := h
  rw [show (isAggT Try.prog 64 == some true) = true by kernel_rfl, ofCells_true]
  obtain ⟨a, _, rfl, ha, b, _, rfl, hb, rfl⟩ := pv_arr (m := 2) (e := 58) (by kernel_rfl) h
  obtain ⟨x, rfl, hx⟩ := invU16s ha
  obtain ⟨y, rfl, hy⟩ := invU16s hb
  exact ⟨x, y, rfl, hx, hy⟩
theorem priced_of {v : PV} (h : valOk Try.prog 8 74 v) : ∃ a b x, v = .agg [.int .u8 a, .int .u32 b, u16s x] ∧ (0 ≤ a ∧ a ≤ 255) ∧ (0 ≤ b ∧ b ≤ 4294967295) ∧ U16s x := by
  obtain ⟨cs, rfl, h⟩ := h
  rw [show (isAggT Try.prog 74 == some true) = true by kernel_rfl, ofCells_true]
  obtain ⟨a, _, rfl, ha, b, _, rfl, hb, c, _, rfl, hc, rfl⟩ := pv_struct (ts := [5, 72, 58]) (by kernel_rfl) h
  obtain ⟨x, rfl, hx⟩ := pv_int (k := .u8) (by kernel_rfl) ha
  obtain ⟨y, rfl, hy⟩ := pv_int (k := .u32) (by kernel_rfl) hb
  obtain ⟨z, rfl, hz⟩ := invU16s hc
  exact ⟨x, y, z, rfl, hx, hy, hz⟩
theorem byte_of {v : PV} (h : valOk Try.prog 8 5 v) : ∃ k, v = .int .u8 k ∧ 0 ≤ k ∧ k ≤ 255 := by
  obtain ⟨cs, rfl, h⟩ := h
  rw [show (isAggT Try.prog 5 == some true) = false by kernel_rfl]
  obtain ⟨k, rfl, h1, h2⟩ := pv_int (k := .u8) (by kernel_rfl) h
  exact ⟨k, rfl, h1, h2⟩
theorem word_of {v : PV} (h : valOk Try.prog 8 72 v) : ∃ k, v = .int .u32 k ∧ 0 ≤ k ∧ k ≤ 4294967295 := by
  obtain ⟨cs, rfl, h⟩ := h
  rw [show (isAggT Try.prog 72 == some true) = false by kernel_rfl]
  obtain ⟨k, rfl, h1, h2⟩ := pv_int (k := .u32) (by kernel_rfl) h
  exact ⟨k, rfl, h1, h2⟩
end Abs
end Go.Proofs.Ythekmbikolpmlaa
