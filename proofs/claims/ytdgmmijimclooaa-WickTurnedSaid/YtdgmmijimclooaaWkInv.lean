/-
  WHAT THE ARGUMENTS OF THE LAWS LOOK LIKE: shops, candles, truths, raw numbers. No conditions beyond the theorems' own.
-/
import Derived.Test.YtdgmmijimclooaaWkLaw1
import Derived.Test.YtdgmmijimclooaaAbsInv
namespace Go.Proofs.Ytdgmmijimclooaa
namespace Abs
set_option maxRecDepth 100000
theorem i3 : intT Try.prog 3 = some .i64 := by kernel_rfl
theorem i5 : intT Try.prog 5 = some .u8 := by kernel_rfl
theorem i61 : intT Try.prog 61 = some .u16 := by kernel_rfl
theorem inv3 {n : Nat} {cs : List PV} (h : PVok Try.prog (n + 1) 3 cs) : ∃ m, cs = [.int .i64 m] := by
  obtain ⟨m, h, _⟩ := pv_int i3 h; exact ⟨m, h⟩
theorem inv25 {n : Nat} {cs : List PV} (h : PVok Try.prog (n + 2) 25 cs) : ∃ s : Span, cs = [.int .i64 s.lo, .int .i64 s.hi] := by
  obtain ⟨a, _, rfl, ha, b, _, rfl, hb, rfl⟩ := pv_struct (ts := [3, 3]) (by kernel_rfl) h
  obtain ⟨x, rfl⟩ := inv3 ha
  obtain ⟨y, rfl⟩ := inv3 hb
  exact ⟨⟨x, y⟩, rfl⟩
theorem inv74 {n : Nat} {cs : List PV} (h : PVok Try.prog (n + 3) 74 cs) : ∃ w : Wick, .agg cs = w.pv := by
  obtain ⟨a, _, rfl, ha, b, _, rfl, hb, c, _, rfl, hc, rfl⟩ := pv_struct (ts := [9, 3, 25]) (by kernel_rfl) h
  obtain ⟨x, rfl, _⟩ := pv_str (by kernel_rfl) ha
  obtain ⟨y, rfl⟩ := inv3 hb
  obtain ⟨z, rfl⟩ := inv25 hc
  exact ⟨⟨x, y, z⟩, rfl⟩
theorem inv80 {n : Nat} {cs : List PV} (h : PVok Try.prog (n + 3) 80 cs) : ∃ w : Wax, .agg cs = w.pv := by
  obtain ⟨a, _, rfl, ha, b, _, rfl, hb, c, _, rfl, hc, d, _, rfl, hd, e, _, rfl, he, rfl⟩ := pv_struct (ts := [9, 25, 25, 25, 3]) (by kernel_rfl) h
  obtain ⟨x, rfl, _⟩ := pv_str (by kernel_rfl) ha
  obtain ⟨y, rfl⟩ := inv25 hb
  obtain ⟨z, rfl⟩ := inv25 hc
  obtain ⟨u, rfl⟩ := inv25 hd
  obtain ⟨v, rfl⟩ := inv3 he
  exact ⟨⟨x, y, z, u, v⟩, rfl⟩
theorem ofCells_true (cs : List PV) : ofCells true cs = .agg cs := by
  cases cs with
  | nil => rfl
  | cons a l => cases l <;> rfl
theorem inv27 {n : Nat} {cs : List PV} (h : PVok Try.prog (n + 6) 27 cs) : ∃ s : Shop, .agg cs = s.pv := by
  obtain ⟨a, _, rfl, ha, b, _, rfl, hb, c, _, rfl, hc, d, _, rfl, hd, rfl⟩ := pv_struct (ts := [22, 23, 25, 25]) (by kernel_rfl) h
  obtain ⟨xs, rfl, _, hx⟩ := pv_list (e := 74) (z := 4) (g := true) (by kernel_rfl) ha
  obtain ⟨ys, rfl, _, hy⟩ := pv_list (e := 80) (z := 8) (g := true) (by kernel_rfl) hb
  obtain ⟨lw, rfl⟩ := list_of Wick.pv (xs := xs) fun x hm => by
    obtain ⟨es, rfl, h⟩ := hx x hm
    rw [ofCells_true]; exact inv74 h
  obtain ⟨lx, rfl⟩ := list_of Wax.pv (xs := ys) fun x hm => by
    obtain ⟨es, rfl, h⟩ := hy x hm
    rw [ofCells_true]; exact inv80 h
  obtain ⟨z, rfl⟩ := inv25 hc
  obtain ⟨u, rfl⟩ := inv25 hd
  exact ⟨⟨lw, lx, z, u⟩, rfl⟩
theorem inv34 {n : Nat} {cs : List PV} (h : PVok Try.prog (n + 3) 34 cs) : ∃ c : Candle, cs = [.int .i64 c.wax, .int .i64 c.diameter, .int .i64 c.draught, .int .i64 c.cold.lo, .int .i64 c.cold.hi] := by
  obtain ⟨a, _, rfl, ha, b, _, rfl, hb, c, _, rfl, hc, d, _, rfl, hd, rfl⟩ := pv_struct (ts := [3, 3, 3, 25]) (by kernel_rfl) h
  obtain ⟨x, rfl⟩ := inv3 ha
  obtain ⟨y, rfl⟩ := inv3 hb
  obtain ⟨z, rfl⟩ := inv3 hc
  obtain ⟨u, rfl⟩ := inv25 hd
  exact ⟨⟨x, y, z, u⟩, rfl⟩
theorem inv36 {n : Nat} {cs : List PV} (h : PVok Try.prog (n + 2) 36 cs) : ∃ t : Truth, cs = [.int .i64 t.pull, .int .i64 t.flow, .int .i64 t.rise, .int .i64 t.spread, .int .i64 t.draught, .int .i64 t.cold] := by
  obtain ⟨a, _, rfl, ha, b, _, rfl, hb, c, _, rfl, hc, d, _, rfl, hd, e, _, rfl, he, f, _, rfl, hf, rfl⟩ := pv_struct (ts := [3, 3, 3, 3, 3, 3]) (by kernel_rfl) h
  obtain ⟨x, rfl⟩ := inv3 ha
  obtain ⟨y, rfl⟩ := inv3 hb
  obtain ⟨z, rfl⟩ := inv3 hc
  obtain ⟨u, rfl⟩ := inv3 hd
  obtain ⟨v, rfl⟩ := inv3 he
  obtain ⟨w, rfl⟩ := inv3 hf
  exact ⟨⟨x, y, z, u, v, w⟩, rfl⟩
theorem inv38 {n : Nat} {cs : List PV} (h : PVok Try.prog (n + 4) 38 cs) : ∃ y : LitX, .agg cs = y.pv := by
  obtain ⟨a, _, rfl, ha, b, _, rfl, hb, c, _, rfl, hc, d, _, rfl, hd, rfl⟩ := pv_struct (ts := [3, 34, 36, 3]) (by kernel_rfl) h
  obtain ⟨x, rfl⟩ := inv3 ha
  obtain ⟨y, rfl⟩ := inv34 hb
  obtain ⟨z, rfl⟩ := inv36 hc
  obtain ⟨u, rfl⟩ := inv3 hd
  exact ⟨⟨x, y, z, u⟩, rfl⟩
theorem shop_of {v : PV} (h : valOk Try.prog 8 27 v) : ∃ s : Shop, v = s.pv := by
  obtain ⟨cs, rfl, h⟩ := h
  rw [show (isAggT Try.prog 27 == some true) = true by kernel_rfl, ofCells_true]
  exact inv27 h
theorem candle_of {v : PV} (h : valOk Try.prog 8 34 v) : ∃ c : Candle, v = c.pv := by
  obtain ⟨cs, rfl, h⟩ := h
  rw [show (isAggT Try.prog 34 == some true) = true by kernel_rfl, ofCells_true]
  obtain ⟨c, rfl⟩ := inv34 h
  exact ⟨c, rfl⟩
theorem int_of {v : PV} (h : valOk Try.prog 8 3 v) : ∃ k, v = .int .i64 k := by
  obtain ⟨cs, rfl, h⟩ := h
  rw [show (isAggT Try.prog 3 == some true) = false by kernel_rfl]
  obtain ⟨k, rfl⟩ := inv3 h
  exact ⟨k, rfl⟩
theorem byte_of {v : PV} (h : valOk Try.prog 8 5 v) : ∃ k, v = .int .u8 k ∧ 0 ≤ k ∧ k ≤ 255 := by
  obtain ⟨cs, rfl, h⟩ := h
  rw [show (isAggT Try.prog 5 == some true) = false by kernel_rfl]
  obtain ⟨k, rfl, h1, h2⟩ := pv_int i5 h
  exact ⟨k, rfl, h1, h2⟩
theorem lit_of {v : PV} (h : valOk Try.prog 8 38 v) : ∃ y : LitX, v = y.pv := by
  obtain ⟨cs, rfl, h⟩ := h
  rw [show (isAggT Try.prog 38 == some true) = true by kernel_rfl, ofCells_true]
  exact inv38 h
/-- raw numbers: a wick, of a truth, others -/
structure BurntX where
  k : Int
  x0 : Int
  x1 : Int
  x2 : Int
  x3 : Int
  x4 : Int
  x5 : Int
  n0 : Int
  n1 : Int
  n2 : Int
  n3 : Int
  hk : 0 ≤ k ∧ k ≤ 255
  h0 : 0 ≤ x0 ∧ x0 ≤ 65535
  h1 : 0 ≤ x1 ∧ x1 ≤ 65535
  h2 : 0 ≤ x2 ∧ x2 ≤ 65535
  h3 : 0 ≤ x3 ∧ x3 ≤ 65535
  h4 : 0 ≤ x4 ∧ x4 ≤ 65535
  h5 : 0 ≤ x5 ∧ x5 ≤ 65535
  g0 : 0 ≤ n0 ∧ n0 ≤ 65535
  g1 : 0 ≤ n1 ∧ n1 ≤ 65535
  g2 : 0 ≤ n2 ∧ n2 ≤ 65535
  g3 : 0 ≤ n3 ∧ n3 ≤ 65535
def BurntX.pv (y : BurntX) : PV := .agg [.int .u8 y.k, .int .u16 y.x0, .int .u16 y.x1, .int .u16 y.x2, .int .u16 y.x3, .int .u16 y.x4, .int .u16 y.x5, .int .u16 y.n0, .int .u16 y.n1, .int .u16 y.n2, .int .u16 y.n3]
theorem burnt_of {v : PV} (h : valOk Try.prog 8 65 v) : ∃ y : BurntX, v = y.pv := by
  obtain ⟨cs, rfl, h⟩ := h
  rw [show (isAggT Try.prog 65 == some true) = true by kernel_rfl, ofCells_true]
  obtain ⟨a, _, rfl, ha, b, _, rfl, hb, c, _, rfl, hc, rfl⟩ := pv_struct (ts := [5, 62, 63]) (by kernel_rfl) h
  obtain ⟨k, rfl, hk⟩ := pv_int i5 ha
  obtain ⟨l, hl, rfl, hx⟩ := arr_ints i61 (pv_arr (m := 6) (e := 61) (by kernel_rfl) hb)
  obtain ⟨m, hm, rfl, hy⟩ := arr_ints i61 (pv_arr (m := 4) (e := 61) (by kernel_rfl) hc)
  match l, hl, m, hm, hx, hy with
  | [x0, x1, x2, x3, x4, x5], _, [n0, n1, n2, n3], _, hx, hy =>
    exact ⟨⟨k, x0, x1, x2, x3, x4, x5, n0, n1, n2, n3, hk, hx _ (by simp), hx _ (by simp), hx _ (by simp), hx _ (by simp), hx _ (by simp), hx _ (by simp), hy _ (by simp), hy _ (by simp), hy _ (by simp), hy _ (by simp)⟩, rfl⟩
theorem two_of {v : PV} (h : valOk Try.prog 8 76 v) : ∃ a b, v = .agg [.int .u16 a, .int .u16 b] ∧ (0 ≤ a ∧ a ≤ 65535) ∧ 0 ≤ b ∧ b ≤ 65535 := by
  obtain ⟨cs, rfl, h⟩ := h
  rw [show (isAggT Try.prog 76 == some true) = true by kernel_rfl, ofCells_true]
  obtain ⟨l, hl, rfl, hx⟩ := arr_ints i61 (pv_arr (m := 2) (e := 61) (by kernel_rfl) h)
  match l, hl, hx with
  | [x, y], _, hx => exact ⟨x, y, rfl, hx _ (by simp), hx _ (by simp)⟩
end Abs
end Go.Proofs.Ytdgmmijimclooaa
