/-
  CONTRACTS OF THE LAWS that compare: Check, At, Burn, Minutes, Faults, Suits, Thinnest, Sizes; the examples.
  WHAT THE ARGUMENTS OF THE LAWS LOOK LIKE: shops, candles, truths, raw numbers. No conditions beyond the theorems' own.
  CONTRACTS OF THE LAWS that speak of ANY truth: truths out of raw numbers; WickTruth, WickSizes.
  CONTRACTS: the law TopLasting: a candle that burns slow and one that burns fast. No conditions but those in the theorems' heads.
-/
import Derived.Test.YtbojkcmohgbpaaaGreatDoorWkSizX
import Derived.Test.YtbojkcmohgbpaaaGreatDoorAbsInvX
import Derived.Test.YtbojkcmohgbpaaaGreatDoorHrLaw0X
namespace Go.Proofs.YtbojkcmohgbpaaaGreatDoor
namespace Abs
namespace Wk
set_option linter.unusedSimpArgs false
set_option maxRecDepth 4000
theorem site_any0 (s : Shop) (c : Candle) : ∃ x, askErr s [] c = 0 → Site s c x := by
  by_cases h : askErr s [] c = 0
  · obtain ⟨x, hh⟩ := siteC_of h
    exact ⟨x, fun _ => hh⟩
  · exact ⟨waxX, fun h' => absurd h' h⟩
structure LitX where
  wick : Int
  candle : Candle
  truth : Truth
  grams : Int
def LitX.pv (x : LitX) : PV := .agg [.int .i64 x.wick, .int .i64 x.candle.wax, .int .i64 x.candle.diameter, .int .i64 x.candle.draught, .int .i64 x.candle.cold.lo, .int .i64 x.candle.cold.hi,
  .int .i64 x.truth.pull, .int .i64 x.truth.flow, .int .i64 x.truth.rise, .int .i64 x.truth.spread, .int .i64 x.truth.draught, .int .i64 x.truth.cold, .int .i64 x.grams]
end Wk
end Abs
end Go.Proofs.YtbojkcmohgbpaaaGreatDoor
namespace Go.Proofs.YtbojkcmohgbpaaaGreatDoor
namespace Abs
namespace Wk
set_option maxRecDepth 100000
theorem i3 : intT Tryz.prog 3 = some .i64 := by kernel_rfl
theorem i5 : intT Tryz.prog 5 = some .u8 := by kernel_rfl
theorem i61 : intT Tryz.prog 30 = some .u16 := by kernel_rfl
theorem inv3 {n : Nat} {cs : List PV} (h : PVok Tryz.prog (n + 1) 3 cs) : ∃ m, cs = [.int .i64 m] := by
  obtain ⟨m, h, _⟩ := pv_int i3 h; exact ⟨m, h⟩
theorem inv25 {n : Nat} {cs : List PV} (h : PVok Tryz.prog (n + 2) 25 cs) : ∃ s : Span, cs = [.int .i64 s.lo, .int .i64 s.hi] := by
  obtain ⟨a, _, rfl, ha, b, _, rfl, hb, rfl⟩ := pv_struct (ts := [3, 3]) (by kernel_rfl) h
  obtain ⟨x, rfl⟩ := inv3 ha
  obtain ⟨y, rfl⟩ := inv3 hb
  exact ⟨⟨x, y⟩, rfl⟩
theorem inv74 {n : Nat} {cs : List PV} (h : PVok Tryz.prog (n + 3) 107 cs) : ∃ w : Wick, .agg cs = w.pv := by
  obtain ⟨a, _, rfl, ha, b, _, rfl, hb, c, _, rfl, hc, rfl⟩ := pv_struct (ts := [9, 3, 25]) (by kernel_rfl) h
  obtain ⟨x, rfl, _⟩ := pv_str (by kernel_rfl) ha
  obtain ⟨y, rfl⟩ := inv3 hb
  obtain ⟨z, rfl⟩ := inv25 hc
  exact ⟨⟨x, y, z⟩, rfl⟩
theorem inv80 {n : Nat} {cs : List PV} (h : PVok Tryz.prog (n + 3) 104 cs) : ∃ w : Wax, .agg cs = w.pv := by
  obtain ⟨a, _, rfl, ha, b, _, rfl, hb, c, _, rfl, hc, d, _, rfl, hd, e, _, rfl, he, rfl⟩ := pv_struct (ts := [9, 25, 25, 25, 3]) (by kernel_rfl) h
  obtain ⟨x, rfl, _⟩ := pv_str (by kernel_rfl) ha
  obtain ⟨y, rfl⟩ := inv25 hb
  obtain ⟨z, rfl⟩ := inv25 hc
  obtain ⟨u, rfl⟩ := inv25 hd
  obtain ⟨v, rfl⟩ := inv3 he
  exact ⟨⟨x, y, z, u, v⟩, rfl⟩
theorem ofCells_true (cs : List PV) : ofCells true cs = .agg cs := by
  cases cs with
  | nil => rfl
  | cons a l => cases l <;> rfl
theorem inv27 {n : Nat} {cs : List PV} (h : PVok Tryz.prog (n + 6) 27 cs) : ∃ s : Shop, .agg cs = s.pv := by
  obtain ⟨a, _, rfl, ha, b, _, rfl, hb, c, _, rfl, hc, d, _, rfl, hd, rfl⟩ := pv_struct (ts := [22, 23, 25, 25]) (by kernel_rfl) h
  obtain ⟨xs, rfl, _, hx⟩ := pv_list (e := 107) (z := 4) (g := true) (by kernel_rfl) ha
  obtain ⟨ys, rfl, _, hy⟩ := pv_list (e := 104) (z := 8) (g := true) (by kernel_rfl) hb
  obtain ⟨lw, rfl⟩ := list_of Wick.pv (xs := xs) fun x hm => by
    obtain ⟨es, rfl, h⟩ := hx x hm
    rw [ofCells_true]; exact inv74 h
  obtain ⟨lx, rfl⟩ := list_of Wax.pv (xs := ys) fun x hm => by
    obtain ⟨es, rfl, h⟩ := hy x hm
    rw [ofCells_true]; exact inv80 h
  obtain ⟨z, rfl⟩ := inv25 hc
  obtain ⟨u, rfl⟩ := inv25 hd
  exact ⟨⟨lw, lx, z, u⟩, rfl⟩
theorem inv34 {n : Nat} {cs : List PV} (h : PVok Tryz.prog (n + 3) 29 cs) : ∃ c : Candle, cs = [.int .i64 c.wax, .int .i64 c.diameter, .int .i64 c.draught, .int .i64 c.cold.lo, .int .i64 c.cold.hi] := by
  obtain ⟨a, _, rfl, ha, b, _, rfl, hb, c, _, rfl, hc, d, _, rfl, hd, rfl⟩ := pv_struct (ts := [3, 3, 3, 25]) (by kernel_rfl) h
  obtain ⟨x, rfl⟩ := inv3 ha
  obtain ⟨y, rfl⟩ := inv3 hb
  obtain ⟨z, rfl⟩ := inv3 hc
  obtain ⟨u, rfl⟩ := inv25 hd
  exact ⟨⟨x, y, z, u⟩, rfl⟩
theorem shop_of {v : PV} (h : valOk Tryz.prog 8 27 v) : ∃ s : Shop, v = s.pv := by
  obtain ⟨cs, rfl, h⟩ := h
  rw [show (isAggT Tryz.prog 27 == some true) = true by kernel_rfl, ofCells_true]
  exact inv27 h
theorem candle_of {v : PV} (h : valOk Tryz.prog 8 29 v) : ∃ c : Candle, v = c.pv := by
  obtain ⟨cs, rfl, h⟩ := h
  rw [show (isAggT Tryz.prog 29 == some true) = true by kernel_rfl, ofCells_true]
  obtain ⟨c, rfl⟩ := inv34 h
  exact ⟨c, rfl⟩
structure BurntX where
  k : Int
  x0 : Int
  x1 : Int
  x2 : Int
  x3 : Int
  x4 : Int
  x5 : Int
  n0 : Int
  n1 : Int
  n2 : Int
  n3 : Int
  hk : 0 ≤ k ∧ k ≤ 255
  h0 : 0 ≤ x0 ∧ x0 ≤ 65535
  h1 : 0 ≤ x1 ∧ x1 ≤ 65535
  h2 : 0 ≤ x2 ∧ x2 ≤ 65535
  h3 : 0 ≤ x3 ∧ x3 ≤ 65535
  h4 : 0 ≤ x4 ∧ x4 ≤ 65535
  h5 : 0 ≤ x5 ∧ x5 ≤ 65535
  g0 : 0 ≤ n0 ∧ n0 ≤ 65535
  g1 : 0 ≤ n1 ∧ n1 ≤ 65535
  g2 : 0 ≤ n2 ∧ n2 ≤ 65535
  g3 : 0 ≤ n3 ∧ n3 ≤ 65535
def BurntX.pv (y : BurntX) : PV := .agg [.int .u8 y.k, .int .u16 y.x0, .int .u16 y.x1, .int .u16 y.x2, .int .u16 y.x3, .int .u16 y.x4, .int .u16 y.x5, .int .u16 y.n0, .int .u16 y.n1, .int .u16 y.n2, .int .u16 y.n3]
theorem burnt_of {v : PV} (h : valOk Tryz.prog 8 34 v) : ∃ y : BurntX, v = y.pv := by
  obtain ⟨cs, rfl, h⟩ := h
  rw [show (isAggT Tryz.prog 34 == some true) = true by kernel_rfl, ofCells_true]
  obtain ⟨a, _, rfl, ha, b, _, rfl, hb, c, _, rfl, hc, rfl⟩ := pv_struct (ts := [5, 31, 32]) (by kernel_rfl) h
  obtain ⟨k, rfl, hk⟩ := pv_int i5 ha
  obtain ⟨l, hl, rfl, hx⟩ := arr_ints i61 (pv_arr (m := 6) (e := 30) (by kernel_rfl) hb)
  obtain ⟨m, hm, rfl, hy⟩ := arr_ints i61 (pv_arr (m := 4) (e := 30) (by kernel_rfl) hc)
  match l, hl, m, hm, hx, hy with
  | [x0, x1, x2, x3, x4, x5], _, [n0, n1, n2, n3], _, hx, hy =>
    exact ⟨⟨k, x0, x1, x2, x3, x4, x5, n0, n1, n2, n3, hk, hx _ (by simp), hx _ (by simp), hx _ (by simp), hx _ (by simp), hx _ (by simp), hx _ (by simp), hy _ (by simp), hy _ (by simp), hy _ (by simp), hy _ (by simp)⟩, rfl⟩
end Wk
end Abs
end Go.Proofs.YtbojkcmohgbpaaaGreatDoor
namespace Go.Proofs.YtbojkcmohgbpaaaGreatDoor
namespace Abs
namespace Wk
set_option linter.unusedSimpArgs false
set_option maxRecDepth 4000
theorem among_eq {lo hi n : Int} (h0 : -1000000 ≤ lo) (h1 : lo ≤ hi) (h2 : hi ≤ 1000000) (h3 : 0 ≤ n) : amongOf lo hi n = lo + n % (hi - lo + 1) ∧ IntKind.i64.wrap (IntKind.i64.wrap (hi - lo) + 1) ≠ 0 := by
  have w1 : IntKind.i64.wrap (hi - lo) = hi - lo := wrap_in (by omega) (by omega)
  have w2 : IntKind.i64.wrap (hi - lo + 1) = hi - lo + 1 := wrap_in (by omega) (by omega)
  have m0 := Int.emod_nonneg n (show hi - lo + 1 ≠ 0 by omega)
  have m1 := Int.emod_lt_of_pos n (show 0 < hi - lo + 1 by omega)
  refine ⟨?_, by rw [w1, w2]; omega⟩
  unfold amongOf
  rw [w1, w2, Int.tmod_eq_emod_of_nonneg h3]
  exact wrap_in (by omega) (by omega)
theorem among_in {lo hi n : Int} (h0 : -1000000 ≤ lo) (h1 : lo ≤ hi) (h2 : hi ≤ 1000000) (h3 : 0 ≤ n) : lo ≤ amongOf lo hi n ∧ amongOf lo hi n ≤ hi := by
  rw [(among_eq h0 h1 h2 h3).1]
  have m0 := Int.emod_nonneg n (show hi - lo + 1 ≠ 0 by omega)
  have m1 := Int.emod_lt_of_pos n (show 0 < hi - lo + 1 by omega)
  omega
theorem cAmongS {lo hi n : Int} (h0 : -1000000 ≤ lo) (h1 : lo ≤ hi) (h2 : hi ≤ 1000000) (h3 : 0 ≤ n) : PCall Tryz.prog 44 [.agg [.int .i64 lo, .int .i64 hi], .int .i64 n] (.int .i64 (amongOf lo hi n)) :=
  cAmong lo hi n (among_eq h0 h1 h2 h3).2
def truthOf (w : Wick) (x : Wax) (c : Candle) (y : BurntX) : Truth :=
  ⟨amongOf w.pull.lo w.pull.hi y.x0, amongOf x.flow.lo x.flow.hi y.x1, amongOf x.rise.lo x.rise.hi y.x2, amongOf x.spread.lo x.spread.hi y.x3, amongOf (-c.draught) c.draught y.x4, amongOf c.cold.lo c.cold.hi y.x5⟩
theorem u16_wrap {n : Int} (h : 0 ≤ n ∧ n ≤ 65535) : IntKind.i64.wrap n = n := wrap_in (by omega) (by omega)
theorem truth_true {w : Wick} {x : Wax} {c : Candle} (hw : WickOk w) (hx : WaxOk x) (hc : CandleOk c) (y : BurntX) : trueB w x c (truthOf w x c y) = true := by
  have a0 := among_in (lo := w.pull.lo) (hi := w.pull.hi) (n := y.x0) (by have := hw.p; omega) (by have := hw.p; omega) (by have := hw.p; omega) y.h0.1
  have a1 := among_in (lo := x.flow.lo) (hi := x.flow.hi) (n := y.x1) (by have := hx.f; omega) (by have := hx.f; omega) (by have := hx.f; omega) y.h1.1
  have a2 := among_in (lo := x.rise.lo) (hi := x.rise.hi) (n := y.x2) (by have := hx.r; omega) (by have := hx.r; omega) (by have := hx.r; omega) y.h2.1
  have a3 := among_in (lo := x.spread.lo) (hi := x.spread.hi) (n := y.x3) (by have := hx.s; omega) (by have := hx.s; omega) (by have := hx.s; omega) y.h3.1
  have a4 := among_in (lo := -c.draught) (hi := c.draught) (n := y.x4) (by have := hc.g; omega) (by have := hc.g; omega) (by have := hc.g; omega) y.h4.1
  have a5 := among_in (lo := c.cold.lo) (hi := c.cold.hi) (n := y.x5) (by have := hc.c; omega) (by have := hc.c; omega) (by have := hc.c; omega) y.h5.1
  simp only [trueB, truthOf, Bool.and_eq_true, gIn_iff]
  exact ⟨a0, a1, a2, a3, a4, a5⟩
theorem cTruth (s : Shop) (c : Candle) (x : Wax) (k : Int) (w : Wick) (y : BurntX) (hs : Site s c x) (hk : SiteK s k w) :
    PCall Tryz.prog 10 [s.pv, .int .i64 k, c.pv, .agg [.int .u16 y.x0, .int .u16 y.x1, .int .u16 y.x2, .int .u16 y.x3, .int .u16 y.x4, .int .u16 y.x5]] (truthOf w x c y).pv := by
  have k0 := hk.k0
  have k1 := hk.k1
  have hw := hk.hw
  have c0 := hs.c0
  have c1 := hs.c1
  have hx := hs.hx
  have hn : IntKind.i64.wrap (-c.draught) = -c.draught := wrap_in (by have := hs.co.g; omega) (by have := hs.co.g; omega)
  have w0 := u16_wrap y.h0
  have w1 := u16_wrap y.h1
  have w2 := u16_wrap y.h2
  have w3 := u16_wrap y.h3
  have w4 := u16_wrap y.h4
  have w5 := u16_wrap y.h5
  have pw := hk.wo.p
  have pf := hs.xo.f
  have pr := hs.xo.r
  have ps := hs.xo.s
  have pg := hs.co.g
  have pc := hs.co.c
  refine pcall_of_wp draws (fn := Tryz.f10) (n := 61) (rs := [.cell 8 47]) (by kernel_rfl) rfl rfl rfl ok10 (Nat.le_of_ble_eq_true rfl) ?_
  simp (maxSteps := 400000) only [k0, k1, hw, c0, c1, hx, hn, w0, w1, w2, w3, w4, w5, go_sem, simprocAttr]
  repeat' first
    | (refine WDQ_pure (cLawSpan _ _) rfl ?_; simp (maxSteps := 400000) only [k0, k1, hw, c0, c1, hx, hn, w0, w1, w2, w3, w4, w5, truthOf, go_sem, simprocAttr])
    | (refine WDQ_pure (cAmongS (by omega) (by omega) (by omega) y.h0.1) rfl ?_; simp (maxSteps := 400000) only [k0, k1, hw, c0, c1, hx, hn, w0, w1, w2, w3, w4, w5, truthOf, go_sem, simprocAttr])
    | (refine WDQ_pure (cAmongS (by omega) (by omega) (by omega) y.h1.1) rfl ?_; simp (maxSteps := 400000) only [k0, k1, hw, c0, c1, hx, hn, w0, w1, w2, w3, w4, w5, truthOf, go_sem, simprocAttr])
    | (refine WDQ_pure (cAmongS (by omega) (by omega) (by omega) y.h2.1) rfl ?_; simp (maxSteps := 400000) only [k0, k1, hw, c0, c1, hx, hn, w0, w1, w2, w3, w4, w5, truthOf, go_sem, simprocAttr])
    | (refine WDQ_pure (cAmongS (by omega) (by omega) (by omega) y.h3.1) rfl ?_; simp (maxSteps := 400000) only [k0, k1, hw, c0, c1, hx, hn, w0, w1, w2, w3, w4, w5, truthOf, go_sem, simprocAttr])
    | (refine WDQ_pure (cAmongS (by omega) (by omega) (by omega) y.h4.1) rfl ?_; simp (maxSteps := 400000) only [k0, k1, hw, c0, c1, hx, hn, w0, w1, w2, w3, w4, w5, truthOf, go_sem, simprocAttr])
    | (refine WDQ_pure (cAmongS (by omega) (by omega) (by omega) y.h5.1) rfl ?_; simp (maxSteps := 400000) only [k0, k1, hw, c0, c1, hx, hn, w0, w1, w2, w3, w4, w5, truthOf, go_sem, simprocAttr])
theorem wick_mod {s : Shop} {c : Candle} {x : Wax} (hs : Site s c x) {n : Int} (h : 0 ≤ n) : n.tmod (s.wicks.length : Int) = n % (s.wicks.length : Int) ∧ 0 ≤ n % (s.wicks.length : Int) ∧ n % (s.wicks.length : Int) < (s.wicks.length : Int) ∧ (s.wicks.length : Int) ≠ 0 := by
  have := hs.so.lw
  have m0 := Int.emod_nonneg n (show (s.wicks.length : Int) ≠ 0 by omega)
  have m1 := Int.emod_lt_of_pos n (show 0 < (s.wicks.length : Int) by omega)
  rw [Int.tmod_eq_emod_of_nonneg h]
  exact ⟨rfl, m0, m1, by omega⟩
theorem ask_k {s : Shop} {c : Candle} (h : askErr s [] c = 0) {k : Int} (h0 : 0 ≤ k) (h1 : k < (s.wicks.length : Int)) : askErr s [k] c = 0 := by
  unfold askErr at h ⊢
  split at h
  · rename_i h2
    rw [if_pos h2]
    have : gIn k 0 ((s.wicks.length : Int) - 1) = true := gIn_iff.2 ⟨h0, by omega⟩
    simpa [this] using h
  · rename_i h2
    exact absurd h h2
structure Good (s : Shop) (c : Candle) (x : Wax) (k : Int) (w : Wick) : Prop where
  a : askErr s [] c = 0
  k : SiteK s k w
  s : Site s c x
theorem Good.ak {s : Shop} {c : Candle} {x : Wax} {k : Int} {w : Wick} (g : Good s c x k w) : askErr s [k] c = 0 := ask_k g.a g.k.k0 g.k.k1
theorem good_of {s : Shop} {c : Candle} {x : Wax} (h : askErr s [] c = 0) (hs : Site s c x) {k : Int} (h0 : 0 ≤ k) (h1 : k < (s.wicks.length : Int)) : ∃ w, Good s c x k w := by
  obtain ⟨w, hk⟩ := siteK_of hs.so h0 h1
  exact ⟨w, h, hk, hs⟩
section
variable {s : Shop} {c : Candle} {x : Wax} {k : Int} {w : Wick}
theorem Good.pAt (g : Good s c x k w) {t : Truth} (ht : trueB w x c t = true) : PCall Tryz.prog 9 [s.pv, .int .i64 k, c.pv, t.pv] (.tuple [(burnOf x.chill t).pv, .int .i64 0]) := by
  have h := cWickAt s k c t w x fun _ => ⟨g.s, g.k⟩
  rwa [show atSpec s k c t w x = (burnOf x.chill t, 0) by rw [atSpec, if_pos g.ak, if_pos ht]] at h
theorem Good.pBurn (g : Good s c x k w) : PCall Tryz.prog 7 [s.pv, .int .i64 k, c.pv] (.tuple [(leastB w x c).pv, (mostB w x c).pv, .int .i64 0]) := by
  have h := cWickBurn s k c w x fun _ => ⟨g.s, g.k⟩
  rwa [show burnSpec s k c w x = (leastB w x c, mostB w x c, 0) by rw [burnSpec, if_pos g.ak]] at h
theorem Good.pMinutes (g : Good s c x k w) {n : Int} (hn : gIn n 1 100000 = true) : PCall Tryz.prog 8 [s.pv, .int .i64 k, c.pv, .int .i64 n] (.tuple [(minSpan w x c n).pv, .int .i64 0]) := by
  have h := cWickMinutes s k c n w x fun _ => ⟨g.s, g.k⟩
  rwa [show minSpec s k c n w x = (minSpan w x c n, 0) by rw [minSpec, if_pos g.ak, if_pos hn]] at h
theorem Good.least (g : Good s c x k w) : trueB w x c (leastT w x c) = true := by
  have := g.k.wo.p; have := g.s.xo.f; have := g.s.xo.r; have := g.s.xo.s; have := g.s.co.g; have := g.s.co.c
  simp only [trueB, leastT, Bool.and_eq_true, gIn_iff]
  omega
theorem Good.most (g : Good s c x k w) : trueB w x c (mostT w x c) = true := by
  have := g.k.wo.p; have := g.s.xo.f; have := g.s.xo.r; have := g.s.xo.s; have := g.s.co.g; have := g.s.co.c
  simp only [trueB, mostT, Bool.and_eq_true, gIn_iff]
  omega
theorem Good.between (g : Good s c x k w) {t : Truth} (ht : trueB w x c t = true) :
    ((leastB w x c).rate ≤ (burnOf x.chill t).rate ∧ (leastB w x c).flame ≤ (burnOf x.chill t).flame ∧ (leastB w x c).pool ≤ (burnOf x.chill t).pool) ∧
    ((burnOf x.chill t).rate ≤ (mostB w x c).rate ∧ (burnOf x.chill t).flame ≤ (mostB w x c).flame ∧ (burnOf x.chill t).pool ≤ (mostB w x c).pool) := by
  have := g.k.wo.p; have := g.s.xo.f; have := g.s.xo.r; have := g.s.xo.s; have := g.s.xo.c; have := g.s.co.g; have := g.s.co.c
  simp only [trueB, Bool.and_eq_true, gIn_iff] at ht
  constructor <;> (refine burn_mono ?_ ?_ ?_ ?_ ?_ ?_ ?_ ?_ ?_ ?_ ?_ ?_ <;> first | omega | (simp only [leastT, mostT]; omega))
end
theorem candle_ok {s : Shop} {c : Candle} (h : CandleOk c) (h0 : 0 ≤ c.wax) (h1 : c.wax < (s.waxes.length : Int)) : candleErr s c = 0 := by
  have a1 : gIn c.wax 0 ((s.waxes.length : Int) - 1) = true := gIn_iff.2 ⟨h0, by omega⟩
  have a2 : gIn c.diameter 1 2000 = true := gIn_iff.2 h.d
  have a3 : gIn c.draught 0 90 = true := gIn_iff.2 h.g
  have a4 : inS c.cold 0 300 = true := inS_iff.2 (by have := h.c; omega)
  have a5 : turnedS c.cold = false := by unfold turnedS; simp; exact h.c.2.1
  rw [candleErr, if_pos a1, a2, a3, a4, a5]
  rfl
theorem Good.candle {s : Shop} {c c' : Candle} {x : Wax} {k : Int} {w : Wick} (g : Good s c x k w) (hw : c'.wax = c.wax) (ho : CandleOk c') : Good s c' x k w := by
  have h0 := g.s.c0
  have h1 := g.s.c1
  have hx := g.s.hx
  rw [← hw] at h0 h1 hx
  refine ⟨?_, g.k, ⟨g.s.so, ho, h0, h1, hx, g.s.xo⟩⟩
  have hs := (ask_ok g.a).1
  rw [askErr, if_pos hs]
  exact candle_ok ho h0 h1
end Wk
end Abs
end Go.Proofs.YtbojkcmohgbpaaaGreatDoor
namespace Go.Proofs.YtbojkcmohgbpaaaGreatDoor
namespace Abs
set_option linter.unusedSimpArgs false
set_option linter.unusedVariables false
set_option maxRecDepth 100000
def fullT (r : Int) : HrTest := ⟨0, 0, [⟨0, r⟩, ⟨60, 0⟩]⟩
def candleN : ByteArray := ⟨#[99, 97, 110, 100, 108, 101]⟩
def lastK (g : Int) : HrKind := ⟨candleN, ⟨1000 * g, 1000 * g⟩, 0⟩
def lastS (g : Int) : HrShop := ⟨[lastK g], [], 0⟩
theorem cFullHour (r : Int) : PCall Tryz.prog 11 [.int .i64 r] (fullT r).pv := by
  refine PCall.lessD (q := .agg [.int .i64 0, .int .i64 0, .slice 2 [.agg [.int .i64 0, .int .i64 r], .agg [.int .i64 60, .int .i64 0]] true]) ?_ (PL.aggL rfl ⟨.refl _, .refl _, PL.sliceL rfl (pl_refls09 _), trivial⟩)
  refine pcall_of_wp draws (fn := Tryz.f11) (n := 8) (rs := [.cell 2 57]) (by kernel_rfl) rfl rfl rfl ok11 (Nat.le_of_ble_eq_true rfl) ?_
  simp (maxSteps := 400000) only [go_sem, simprocAttr]
theorem fullT_err {r : Int} (h : 0 ≤ r ∧ r ≤ 10000000) : hrTestErr 1 (fullT r) = 0 := by
  have h1 : gIn (0 : Int) 0 (1 - 1) = true := by decide
  have h2 : gIn r 0 10000000 = true := by simp [gIn]; omega
  simp [hrTestErr, fullT, markIn, h2, fallsGo, gIn]
  omega
theorem fullT_rate {r : Int} (h : 0 ≤ r) : hrRate (fullT r) = (⟨r, r⟩, true) := by
  have hp : pairL (fullT r) = [(⟨60 * r, 60⟩, ⟨60 * r, 60⟩)] := by simp [pairL, fullT, pairsGo, fracs]
  have hd : (60 * r) / 60 = r := by omega
  have hu : -(-(60 * r) / 60) = r := by omega
  have hm : mx0 r = r := by unfold mx0; split <;> omega
  simp [hrRate, rateF, hp, keep2, keepLo, keepHi, zero2, Frac.down, Frac.up, hd, hu, hm, Frac.lt]
theorem lastS_check {g : Int} (h : 1 ≤ g ∧ g ≤ 10000) : hrCheck (lastS g) = (0, 0, 0) := by
  have hn : namedErr [] candleN = 0 := by kernel_rfl
  have h1 : gIn (1000 * g) 1 10000000 = true := by simp [gIn]; omega
  have h2 : decide (1000 * g ≤ 0) = false := by simp; omega
  have hk : hrKindErr [] (lastK g) = 0 := by
    rw [hrKindErr, lastK]
    dsimp only
    rw [if_pos hn, hrKindBase]
    dsimp only
    rw [h1, h2, show gIn 0 0 10000000 = true by decide, show decide (1000 * g < 1000 * g) = false by simp]
    rfl
  have hf : firstErr hrKindErr (·.name) [lastK g] [] = none := by rw [firstErr, if_pos hk]; rfl
  rw [hrCheck, lastS]
  dsimp only
  rw [hf]
  rfl
theorem last_tests {g a b : Int} (h : 1 ≤ g ∧ g ≤ 10000) (ha : 0 ≤ a ∧ a ≤ 10000000) (hb : 0 ≤ b ∧ b ≤ 10000000) : hrTests (lastS g) [fullT a, fullT b] = 0 := by
  have hc := lastS_check h
  have e1 : hrTestErr ((lastS g).kinds.length : Int) (fullT a) = 0 := fullT_err ha
  have e2 : hrTestErr ((lastS g).kinds.length : Int) (fullT b) = 0 := fullT_err hb
  rw [hrTests, hc, if_pos rfl, if_neg (by simp), testsErr, if_pos e1, testsErr, if_pos e2]
  rfl
theorem last_rates {g a b : Int} (ha : 0 ≤ a) (hab : a ≤ b) : lookRates (lastS g) [fullT a, fullT b] 0 = ⟨a, b⟩ := by
  have hb : 0 ≤ b := by omega
  have e1 := fullT_rate ha
  have e2 := fullT_rate hb
  have p1 : poss (fullT a) = true := by rw [poss, e1]
  have p2 : poss (fullT b) = true := by rw [poss, e2]
  have hlt : ¬ a < 0 := by omega
  have hba : ¬ b < a := by omega
  have hif : (if a < b then b else a) = b := by split <;> omega
  have k1 : ∀ r, (fullT r).kind = 0 := fun _ => rfl
  rw [lookRates, lookGo, lookGo, lookGo, k1, k1, if_pos (show (0 : Int) = 0 ∧ poss (fullT a) = true from ⟨rfl, p1⟩), if_pos (show (0 : Int) = 0 ∧ poss (fullT b) = true from ⟨rfl, p2⟩), e1, e2, lookStep, lookStep, if_pos (show (-1 : Int) < 0 by decide), if_neg hlt]
  dsimp only
  rw [if_neg hba, hif]
theorem last_widen {a b : Int} : widen 0 ⟨a, b⟩ = ⟨a, b⟩ := by
  have h1 : a * (1000 - 0) / 1000 = a := by omega
  have h2 : -(-(b * (1000 + 0)) / 1000) = b := by omega
  simp only [widen, Frac.down, Frac.up, h1, h2]
theorem last_look {g a b : Int} (h : 1 ≤ g ∧ g ≤ 10000) (ha : 0 ≤ a) (hab : a ≤ b) (hb : 1 ≤ b) (hb2 : b ≤ 10000000) : hrLook (lastS g) [fullT a, fullT b] 0 = (⟨lastK g, ⟨a, b⟩⟩, 0) := by
  have hr := last_rates (g := g) ha hab
  have hw : widen (lastS g).margin (lookRates (lastS g) [fullT a, fullT b] 0) = ⟨a, b⟩ := by rw [hr]; exact last_widen
  rw [hrLook, if_pos (last_tests h ⟨ha, by omega⟩ ⟨by omega, hb2⟩), hw, hr]
  have h1 : ¬ a < 0 := by omega
  have h2 : ¬ b = 0 := by omega
  simp [lastS, gIn, h1, h2]
theorem hours_kept {n most fast g : Int} (hn : 0 ≤ n) (h1 : n * fast ≤ 1000 * g) (hm : 1 ≤ most) (hf : fast = (most + 9999) / 10000) : n * most ≤ 10000000 * g ∧ 60 * n ≤ (600 * g * 1000000) / most := by
  have h2 : most ≤ fast * 10000 := by omega
  have h3 : n * most ≤ n * (fast * 10000) := Int.mul_le_mul_of_nonneg_left h2 hn
  rw [← Int.mul_assoc] at h3
  have h4 : n * most ≤ 10000000 * g := by omega
  refine ⟨h4, (Int.le_ediv_iff_mul_le (by omega)).2 ?_⟩
  rw [Int.mul_assoc]
  omega
theorem shop_pl (g : Int) : PL (.agg [.slice 4 [.agg [.str candleN, .int .i64 (1000 * g), .int .i64 (1000 * g), .int .i64 0]] true, .nilslice, .int .i64 0]) (lastS g).pv :=
  PL.aggL rfl ⟨PL.sliceL rfl (pl_refls09 _), .nil 5, .refl _, trivial⟩
open Wk in
set_option maxHeartbeats 8000000 in
theorem lTopLasting (s : Shop) (c : Candle) (y : BurntX) : PCall Tryz.prog 3 [s.pv, c.pv, y.pv] (.bool true) := by
  obtain ⟨x, hx⟩ := site_any0 s c
  refine pcall_of_wp draws (fn := Tryz.f3) (n := 176) (rs := [.tmp 6]) (by kernel_rfl) rfl rfl rfl ok3 (Nat.le_of_ble_eq_true rfl) ?_
  simp (maxSteps := 400000) only [H3, W_drawH, BurntX.pv, go_sem, simprocAttr]
  (first | refine WF_pure (cRefCandle s c) rfl ?_ | refine WDQ_pure (cRefCandle s c) rfl ?_)
  simp (maxSteps := 400000) only [H3, W_drawH, go_sem, simprocAttr]
  cases h0 : (askErr s [] c != 0)
  rotate_left
  · simp (maxSteps := 400000) only [H3, W_drawH, go_sem, simprocAttr]
    (first | refine WF_pure (Wk.cAwake) rfl ?_ | refine WDQ_pure (Wk.cAwake) rfl ?_)
    simp (maxSteps := 400000) only [H3, W_drawH, go_sem, simprocAttr]
    (first | refine WF_pure (Abs.cAwake) rfl ?_ | refine WDQ_pure (Abs.cAwake) rfl ?_)
    simp (maxSteps := 400000) only [H3, W_drawH, go_sem, simprocAttr]
  have h0' : askErr s [] c = 0 := by simpa using h0
  have hs := hx h0'
  obtain ⟨m1, m2, m3, m4⟩ := wick_mod hs y.hk.1
  have w1 : IntKind.i64.wrap y.k = y.k := wrap_in (by have := y.hk; omega) (by have := y.hk; omega)
  have hg0 := y.g0
  have w2 := u16_wrap y.g0
  obtain ⟨w, g⟩ := good_of h0' hs m2 m3
  generalize y.k % (s.wicks.length : Int) = k at m1 m2 m3 g
  have m5 : y.n0.tmod 10000 = y.n0 % 10000 := Int.tmod_eq_emod_of_nonneg hg0.1
  have w3 : IntKind.i64.wrap (1 + y.n0 % 10000) = 1 + y.n0 % 10000 := wrap_in (by omega) (by omega)
  simp (maxSteps := 400000) only [H3, W_drawH, w1, w2, m1, m4, m5, w3, go_sem, simprocAttr]
  have hG : 1 ≤ 1 + y.n0 % 10000 ∧ 1 + y.n0 % 10000 ≤ 10000 := by omega
  generalize 1 + y.n0 % 10000 = gr at hG w3 ⊢
  (first | refine WF_pure (g.pBurn) rfl ?_ | refine WDQ_pure (g.pBurn) rfl ?_)
  simp (maxSteps := 400000) only [H3, W_drawH, go_sem, simprocAttr]
  (first | refine WF_pure (g.pMinutes (n := gr) (gIn_iff.2 (by omega))) rfl ?_ | refine WDQ_pure (g.pMinutes (n := gr) (gIn_iff.2 (by omega))) rfl ?_)
  simp (maxSteps := 400000) only [H3, W_drawH, go_sem, simprocAttr]
  (first | refine WF_pure (cTruth s c x k w y hs g.k) rfl ?_ | refine WDQ_pure (cTruth s c x k w y hs g.k) rfl ?_)
  simp (maxSteps := 400000) only [H3, W_drawH, go_sem, simprocAttr]
  have htr := truth_true (w := w) (x := x) (c := c) g.k.wo hs.xo hs.co y
  (first | refine WF_pure (g.pAt htr) rfl ?_ | refine WDQ_pure (g.pAt htr) rfl ?_)
  have hrp := rate_pos (w := w) (x := x) (c := c) g.k.wo hs.xo hs.co
  have hbt := g.between htr
  have hlm := g.between g.least
  have hml : (leastB w x c).rate ≤ (mostB w x c).rate := hlm.2.1
  have hbr : (burnOf x.chill (truthOf w x c y)).rate ≤ (mostB w x c).rate := hbt.2.1
  have hbr0 : (leastB w x c).rate ≤ (burnOf x.chill (truthOf w x c y)).rate := hbt.1.1
  have hmin : (minSpan w x c gr).lo = (600 * gr * 1000000) / (mostB w x c).rate := by
    simp only [minSpan]; exact Int.tdiv_eq_ediv_of_nonneg (by omega)
  generalize minSpan w x c gr = ms at hmin ⊢
  generalize leastB w x c = lb at hrp hml hbr0 hlm ⊢
  generalize mostB w x c = mb at hrp hml hbr hmin hlm ⊢
  generalize burnOf x.chill (truthOf w x c y) = bt at hbr hbr0 ⊢
  have c1 : decide (lb.rate < 1) = false := by simp; omega
  have c2 : decide (mb.rate < lb.rate) = false := by simp; omega
  have v1 : IntKind.i64.wrap (lb.rate.tdiv 10000) = lb.rate / 10000 := by rw [Int.tdiv_eq_ediv_of_nonneg (by omega)]; exact wrap_in (by omega) (by omega)
  have v2 : IntKind.i64.wrap (mb.rate + 10000) = mb.rate + 10000 := wrap_in (by omega) (by omega)
  have v3 : IntKind.i64.wrap (mb.rate + 10000 - 1) = mb.rate + 9999 := by rw [wrap_in (by omega) (by omega)]; omega
  have v4 : IntKind.i64.wrap ((mb.rate + 9999).tdiv 10000) = (mb.rate + 9999) / 10000 := by rw [Int.tdiv_eq_ediv_of_nonneg (by omega)]; exact wrap_in (by omega) (by omega)
  have hsl : 0 ≤ lb.rate / 10000 ∧ lb.rate / 10000 ≤ (mb.rate + 9999) / 10000 ∧ 1 ≤ (mb.rate + 9999) / 10000 ∧ (mb.rate + 9999) / 10000 ≤ 10000000 := by omega
  have c3 : decide (10000000 < (mb.rate + 9999) / 10000) = false := by simp; omega
  have v5 : IntKind.i64.wrap (1000 * gr) = 1000 * gr := wrap_in (by omega) (by omega)
  simp (maxSteps := 400000) only [H3, W_drawH, c1, c2, v1, v2, v3, v4, c3, v5, go_sem, simprocAttr]
  have hlk := last_look (g := gr) hG hsl.1 hsl.2.1 hsl.2.2.1 hsl.2.2.2
  have hkept := fun n hn h1 => hours_kept (n := n) (most := mb.rate) (fast := (mb.rate + 9999) / 10000) (g := gr) hn h1 (by omega) rfl
  generalize lb.rate / 10000 = slow at hsl hlk ⊢
  generalize (mb.rate + 9999) / 10000 = fast at hsl hlk hkept ⊢
  (first | refine WF_pure (cFullHour slow) rfl ?_ | refine WDQ_pure (cFullHour slow) rfl ?_)
  simp (maxSteps := 400000) only [H3, W_drawH, go_sem, simprocAttr]
  (first | refine WF_pure (cFullHour fast) rfl ?_ | refine WDQ_pure (cFullHour fast) rfl ?_)
  simp (maxSteps := 400000) only [H3, W_drawH, go_sem, simprocAttr]
  have hlz : (hrLook (lastS gr) [fullT slow, fullT fast] 0).2 = 0 := by rw [hlk]
  obtain ⟨e1, _, e3⟩ := look_good hlz
  have hko := (hrLook_ok hlz).1
  rw [hlk] at e1 e3 hko
  have hpf := promise_facts hko
  have cP := cPromise (lastS gr) [fullT slow, fullT fast] 0
  have cR := cRates (lastS gr) [fullT slow, fullT fast] 0
  rw [e3] at cP
  rw [e1] at cR
  dsimp only at cP cR hpf
  generalize HrK.promise ⟨lastK gr, ⟨slow, fast⟩⟩ = n at cP hpf
  have hn1 := hkept n hpf.1 (by have := hpf.2.2.1; simp only [lastK] at this; omega)
  have cP' := cP.arglessD (args' := [.agg [.slice 4 [.agg [.str candleN, .int .i64 (1000 * gr), .int .i64 (1000 * gr), .int .i64 0]] true, .nilslice, .int .i64 0], .slice 3 [(fullT slow).pv, (fullT fast).pv] true, .int .i64 0]) ⟨shop_pl gr, tests_true [fullT slow, fullT fast] true, .refl _, trivial⟩
  have cR' := cR.arglessD (args' := [.agg [.slice 4 [.agg [.str candleN, .int .i64 (1000 * gr), .int .i64 (1000 * gr), .int .i64 0]] true, .nilslice, .int .i64 0], .slice 3 [(fullT slow).pv, (fullT fast).pv] true, .int .i64 0]) ⟨shop_pl gr, tests_true [fullT slow, fullT fast] true, .refl _, trivial⟩
  (first | refine WF_pure (cP') rfl ?_ | refine WDQ_pure (cP') rfl ?_)
  simp (maxSteps := 400000) only [H3, W_drawH, go_sem, simprocAttr]
  (first | refine WF_pure (cR') rfl ?_ | refine WDQ_pure (cR') rfl ?_)
  have q1 : 0 ≤ n * bt.rate := Int.mul_nonneg hpf.1 (by omega)
  have q2 : n * bt.rate ≤ n * mb.rate := Int.mul_le_mul_of_nonneg_left hbr hpf.1
  have u1 : IntKind.i64.wrap (60 * n) = 60 * n := wrap_in (by omega) (by omega)
  have u2 : IntKind.i64.wrap (n * bt.rate) = n * bt.rate := wrap_in (by omega) (by omega)
  have u3 : IntKind.i64.wrap (1000 * gr * 10000) = 1000 * gr * 10000 := wrap_in (by omega) (by omega)
  have d1 : decide (n < 0) = false := by simp; omega
  have d2 : decide (60 * n ≤ ms.lo) = true := by rw [hmin]; simpa using hn1.2
  have d3 : decide (n * bt.rate ≤ 1000 * gr * 10000) = true := by simp; omega
  simp (maxSteps := 400000) only [H3, W_drawH, beq_self_eq_true, bne, d1, u1, d2, u2, v5, u3, d3, go_sem, simprocAttr]
  (first | refine WF_pure (Wk.cAwake) rfl ?_ | refine WDQ_pure (Wk.cAwake) rfl ?_)
  simp (maxSteps := 400000) only [H3, W_drawH, go_sem, simprocAttr]
  (first | refine WF_pure (Abs.cAwake) rfl ?_ | refine WDQ_pure (Abs.cAwake) rfl ?_)
  simp (maxSteps := 400000) only [H3, W_drawH, go_sem, simprocAttr]
end Abs
end Go.Proofs.YtbojkcmohgbpaaaGreatDoor
