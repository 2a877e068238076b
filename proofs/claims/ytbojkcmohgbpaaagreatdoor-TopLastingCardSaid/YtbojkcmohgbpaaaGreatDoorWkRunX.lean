/-
  CONTRACTS: a shop that is looked at with a candle; how it burns.
  CONTRACTS: how a candle burns in a truth; the ends.
  CONTRACTS: At, Burn, Minutes, in the program and in the reference.
-/
import Derived.Test.YtbojkcmohgbpaaaGreatDoorWkChk
namespace Go.Proofs.YtbojkcmohgbpaaaGreatDoor
namespace Abs
namespace Wk
set_option linter.unusedSimpArgs false
set_option maxRecDepth 4000
structure WickOk (w : Wick) : Prop where
  t : 1 ≤ w.threads ∧ w.threads ≤ 100
  p : 1 ≤ w.pull.lo ∧ w.pull.lo ≤ w.pull.hi ∧ w.pull.hi ≤ 1000
structure WaxOk (x : Wax) : Prop where
  f : 1 ≤ x.flow.lo ∧ x.flow.lo ≤ x.flow.hi ∧ x.flow.hi ≤ 300
  r : 1 ≤ x.rise.lo ∧ x.rise.lo ≤ x.rise.hi ∧ x.rise.hi ≤ 1000
  s : 1 ≤ x.spread.lo ∧ x.spread.lo ≤ x.spread.hi ∧ x.spread.hi ≤ 2000
  c : 0 ≤ x.chill ∧ x.chill ≤ 50
structure ShopOk (s : Shop) : Prop where
  lw : 1 ≤ s.wicks.length ∧ s.wicks.length ≤ 12
  lx : 1 ≤ s.waxes.length ∧ s.waxes.length ≤ 6
  fl : 0 ≤ s.flame.lo ∧ s.flame.lo ≤ s.flame.hi ∧ s.flame.hi ≤ 2000
  po : 0 ≤ s.pool.lo ∧ s.pool.lo ≤ s.pool.hi ∧ s.pool.hi ≤ 2000
  w : ∀ w, w ∈ s.wicks → WickOk w
  x : ∀ x, x ∈ s.waxes → WaxOk x
def shopErr (s : Shop) : Int := (checkSpec s).2.2
theorem gIn_iff {n lo hi : Int} : gIn n lo hi = true ↔ lo ≤ n ∧ n ≤ hi := by simp [gIn]
theorem inS_iff {s : Span} {lo hi : Int} : inS s lo hi = true ↔ (lo ≤ s.lo ∧ s.lo ≤ hi) ∧ lo ≤ s.hi ∧ s.hi ≤ hi := by simp [inS, gIn]
theorem turned_iff {s : Span} : turnedS s = false ↔ s.lo ≤ s.hi := by simp [turnedS]
theorem wickErr_ok {b : List ByteArray} {w : Wick} (h : wickErr b w = 0) : WickOk w := by
  unfold wickErr at h
  split at h
  · split at h
    · rename_i h1
      split at h
      · cases h
      · rename_i h2
        simp only [Bool.and_eq_true, gIn_iff, inS_iff] at h1
        rw [Bool.not_eq_true, turned_iff] at h2
        exact ⟨h1.1, h1.2.1.1, h2, h1.2.2.2⟩
    · cases h
  · rename_i h0; exact absurd h h0
theorem waxErr_ok {b : List ByteArray} {x : Wax} (h : waxErr b x = 0) : WaxOk x := by
  unfold waxErr at h
  split at h
  · split at h
    · rename_i h1
      split at h
      · cases h
      · rename_i h2
        simp only [Bool.and_eq_true, gIn_iff, inS_iff] at h1
        rw [Bool.not_eq_true] at h2
        simp only [Bool.or_eq_false_iff, turned_iff] at h2
        exact ⟨⟨h1.1.2.1.1, h2.1, h1.1.2.2.2⟩, ⟨h1.2.1.1.1, h2.2.1, h1.2.1.2.2⟩, ⟨h1.2.2.1.1, h2.2.2, h1.2.2.2.2⟩, h1.1.1⟩
    · cases h
  · rename_i h0; exact absurd h h0
theorem firstErr_none {α : Type} {f : List ByteArray → α → Int} {nm : α → ByteArray} : ∀ {l : List α} {b : List ByteArray}, firstErr f nm l b = none → ∀ x, x ∈ l → ∃ b, f b x = 0
  | [], _, _, x, hx => by cases hx
  | y :: r, b, h, x, hx => by
    unfold firstErr at h
    split at h
    · rename_i h0
      rcases List.mem_cons.1 hx with rfl | hx
      · exact ⟨b, h0⟩
      · exact firstErr_none h x hx
    · cases h
theorem firstErr_some {α : Type} {f : List ByteArray → α → Int} {nm : α → ByteArray} : ∀ {l : List α} {b : List ByteArray} {i e : Int}, firstErr f nm l b = some (i, e) → e ≠ 0
  | [], _, _, _, h => by cases h
  | y :: r, b, i, e, h => by
    unfold firstErr at h
    split at h
    · exact firstErr_some h
    · rename_i h0
      cases h; exact h0
theorem shopOk_of {s : Shop} (h : shopErr s = 0) : ShopOk s := by
  unfold shopErr checkSpec at h
  split at h
  · rename_i h1
    split at h
    · rename_i h2
      split at h
      · cases h
      · rename_i h3
        simp only [Bool.and_eq_true, gIn_iff, inS_iff] at h1 h2
        rw [Bool.not_eq_true] at h3
        simp only [Bool.or_eq_false_iff, turned_iff] at h3
        unfold checkTail at h
        split at h
        · rename_i i e hf
          exact absurd h (firstErr_some hf)
        · rename_i hf
          split at h
          · rename_i i e hg
            exact absurd h (firstErr_some hg)
          · rename_i hg
            refine ⟨by omega, by omega, ⟨h2.1.1.1, h3.1, h2.1.2.2⟩, ⟨h2.2.1.1, h3.2, h2.2.2.2⟩, fun w hw => ?_, fun x hx => ?_⟩
            · obtain ⟨b, hb⟩ := firstErr_none hf w hw; exact wickErr_ok hb
            · obtain ⟨b, hb⟩ := firstErr_none hg x hx; exact waxErr_ok hb
    · cases h
  · cases h
def candleErr (s : Shop) (c : Candle) : Int :=
  if gIn c.wax 0 ((s.waxes.length : Int) - 1) = true then (if (gIn c.diameter 1 2000 && (gIn c.draught 0 90 && inS c.cold 0 300)) = true then (if turnedS c.cold = true then 2 else 0) else 7) else 4
def askErr (s : Shop) (ks : List Int) (c : Candle) : Int :=
  if shopErr s = 0 then (if (ks.all fun k => gIn k 0 ((s.wicks.length : Int) - 1)) = true then candleErr s c else 4) else shopErr s
structure CandleOk (c : Candle) : Prop where
  d : 1 ≤ c.diameter ∧ c.diameter ≤ 2000
  g : 0 ≤ c.draught ∧ c.draught ≤ 90
  c : 0 ≤ c.cold.lo ∧ c.cold.lo ≤ c.cold.hi ∧ c.cold.hi ≤ 300
theorem candleOk_of {s : Shop} {c : Candle} (h : candleErr s c = 0) : CandleOk c ∧ 0 ≤ c.wax ∧ c.wax < s.waxes.length := by
  unfold candleErr at h
  split at h
  · rename_i h1
    split at h
    · rename_i h2
      split at h
      · cases h
      · rename_i h3
        simp only [Bool.and_eq_true, gIn_iff, inS_iff] at h1 h2
        rw [Bool.not_eq_true, turned_iff] at h3
        exact ⟨⟨h2.1, h2.2.1, h2.2.2.1.1, h3, h2.2.2.2.2⟩, h1.1, by omega⟩
    · cases h
  · cases h
theorem ask_ok {s : Shop} {ks : List Int} {c : Candle} (h : askErr s ks c = 0) : shopErr s = 0 ∧ candleErr s c = 0 ∧ ∀ k, k ∈ ks → 0 ≤ k ∧ k < s.wicks.length := by
  unfold askErr at h
  split at h
  · rename_i h1
    split at h
    · rename_i h2
      refine ⟨h1, h, fun k hk => ?_⟩
      have := List.all_eq_true.1 h2 k hk
      rw [gIn_iff] at this
      omega
    · cases h
  · rename_i h0; exact absurd h h0
theorem cRefCandle (s : Shop) (c : Candle) : PCall Tryz.prog 4 [s.pv, c.pv] (.int .i64 (askErr s [] c)) := by
  refine pcall_of_wp draws (fn := Tryz.f4) (n := 38) (rs := [.tmp 4]) (by kernel_rfl) rfl rfl rfl ok4 (Nat.le_of_ble_eq_true rfl) ?_
  simp (maxSteps := 400000) only [go_sem, simprocAttr]
  refine WF_pure (cRefCheck s) rfl ?_
  simp (maxSteps := 400000) only [triple, go_sem, simprocAttr]
  have hE : (checkSpec s).2.2 = shopErr s := rfl
  rw [hE]
  cases h0 : (shopErr s != 0)
  rotate_left
  · have h0' : ¬ shopErr s = 0 := by simpa using h0
    simp (maxSteps := 400000) only [askErr, if_neg h0', go_sem, simprocAttr]
  have h0' : shopErr s = 0 := by simpa using h0
  have ok := shopOk_of h0'
  have hw : IntKind.i64.wrap ((s.waxes.length : Int) - 1) = (s.waxes.length : Int) - 1 := wrap_in (by omega) (by have := ok.lx; omega)
  have hA : askErr s [] c = candleErr s c := by simp [askErr, h0']
  rw [hA]
  simp (maxSteps := 400000) only [hw, go_sem, simprocAttr]
  refine WF_pure (cIn2 _ _ _) rfl ?_
  simp (maxSteps := 400000) only [go_sem, simprocAttr]
  cases h1 : gIn c.wax 0 ((s.waxes.length : Int) - 1)
  · simp (maxSteps := 400000) only [candleErr, h1, go_sem, simprocAttr]
  simp (maxSteps := 400000) only [go_sem, simprocAttr]
  refine WF_pure (cIn2 _ _ _) rfl ?_
  simp (maxSteps := 400000) only [go_sem, simprocAttr]
  cases h2 : gIn c.diameter 1 2000
  · simp (maxSteps := 400000) only [candleErr, h1, h2, go_sem, simprocAttr]
  simp (maxSteps := 400000) only [go_sem, simprocAttr]
  refine WF_pure (cIn2 _ _ _) rfl ?_
  simp (maxSteps := 400000) only [go_sem, simprocAttr]
  cases h3 : gIn c.draught 0 90
  · simp (maxSteps := 400000) only [candleErr, h1, h2, h3, go_sem, simprocAttr]
  simp (maxSteps := 400000) only [go_sem, simprocAttr]
  refine WF_pure (cSpan _ _ _ _) rfl ?_
  simp (maxSteps := 400000) only [gSpan_inS, candleErr, h1, h2, h3, go_sem, simprocAttr]
def openPV (s : Shop) (c : Candle) (x : Wax) : PV := .ptr 19 [.agg (s.pv.cells ++ c.pv.cells ++ x.pv.cells)] 0 0
attribute [go_sem] openPV
theorem any_not_all (l : List Int) (lo hi : Int) : (l.any fun n => !gIn n lo hi) = !(l.all fun n => gIn n lo hi) := by rw [← List.not_all_eq_any_not]
theorem cOpen (s : Shop) (c : Candle) (ks : List Int) (b : Bool) (xs : List PV) (hxs : xs = ks.map intPV) (hks : ks.length < 1000000) (x : Wax) (hx : askErr s ks c = 0 → s.waxes[c.wax.toNat]? = some x) :
    PCall Tryz.prog 39 [s.pv, c.pv, .slice 1 xs b] (.tuple [if askErr s ks c = 0 then openPV s c x else .nilptr, .int .i64 (askErr s ks c)]) := by
  subst hxs
  refine pcall_of_wp_frz draws (fn := Tryz.f39) (n := 74) (rs := [.tmp 6, .tmp 7]) (by kernel_rfl) rfl rfl rfl ok39 (Nat.le_of_ble_eq_true rfl) ?_
  simp (maxSteps := 400000) only [go_sem, simprocAttr]
  refine WF_pure (cCheck s) rfl ?_
  simp (maxSteps := 400000) only [triple, go_sem, simprocAttr]
  have hE : (checkSpec s).2.2 = shopErr s := rfl
  rw [hE]
  cases h0 : (shopErr s != 0)
  rotate_left
  · have h0' : ¬ shopErr s = 0 := by simpa using h0
    simp (maxSteps := 400000) only [askErr, if_neg h0', go_sem, simprocAttr]
  have h0' : shopErr s = 0 := by simpa using h0
  have ok := shopOk_of h0'
  have hw1 : IntKind.i64.wrap ((s.wicks.length : Int) - 1) = (s.wicks.length : Int) - 1 := wrap_in (by omega) (by have := ok.lw; omega)
  have hw2 : IntKind.i64.wrap ((s.waxes.length : Int) - 1) = (s.waxes.length : Int) - 1 := wrap_in (by omega) (by have := ok.lx; omega)
  have hA : askErr s ks c = if (ks.all fun k => gIn k 0 ((s.wicks.length : Int) - 1)) = true then candleErr s c else 4 := by simp only [askErr, if_pos h0']
  rw [hA] at hx ⊢
  simp (maxSteps := 400000) only [hw1, go_sem, simprocAttr]
  refine WF_pure (cOut 0 ((s.wicks.length : Int) - 1) ks b (by omega)) rfl ?_
  simp (maxSteps := 400000) only [go_sem, simprocAttr]
  rw [any_not_all]
  cases h1 : (ks.all fun k => gIn k 0 ((s.wicks.length : Int) - 1))
  · simp (maxSteps := 400000) only [go_sem, simprocAttr]
  rw [h1, if_pos rfl] at hx
  simp (maxSteps := 400000) only [hw2, go_sem, simprocAttr]
  refine WF_pure (cOut 0 ((s.waxes.length : Int) - 1) [_] true (by simp)) rfl ?_
  simp (maxSteps := 400000) only [List.any_cons, List.any_nil, go_sem, simprocAttr]
  cases h2 : gIn c.wax 0 ((s.waxes.length : Int) - 1)
  · simp (maxSteps := 400000) only [candleErr, h2, go_sem, simprocAttr]
  simp (maxSteps := 400000) only [go_sem, simprocAttr]
  refine WF_pure (cOut 1 2000 [_] true (by simp)) rfl ?_
  simp (maxSteps := 400000) only [List.any_cons, List.any_nil, go_sem, simprocAttr]
  cases h3 : gIn c.diameter 1 2000
  · simp (maxSteps := 400000) only [candleErr, h2, h3, go_sem, simprocAttr]
  simp (maxSteps := 400000) only [go_sem, simprocAttr]
  refine WF_pure (cOut 0 90 [_] true (by simp)) rfl ?_
  simp (maxSteps := 400000) only [List.any_cons, List.any_nil, go_sem, simprocAttr]
  cases h4 : gIn c.draught 0 90
  · simp (maxSteps := 400000) only [candleErr, h2, h3, h4, go_sem, simprocAttr]
  simp (maxSteps := 400000) only [go_sem, simprocAttr]
  refine WF_pure (cOut 0 300 [_, _] true (by simp)) rfl ?_
  simp (maxSteps := 400000) only [List.any_cons, List.any_nil, ← Bool.not_and, go_sem, simprocAttr]
  cases h5 : (gIn c.cold.lo 0 300 && gIn c.cold.hi 0 300)
  · simp (maxSteps := 400000) only [candleErr, h2, h3, h4, inS, h5, go_sem, simprocAttr]
  simp (maxSteps := 400000) only [go_sem, simprocAttr]
  refine WF_pure (cTurned [c.cold] true (by simp)) rfl ?_
  simp (maxSteps := 400000) only [List.any_cons, List.any_nil, go_sem, simprocAttr]
  cases h6 : decide (c.cold.hi < c.cold.lo)
  rotate_left
  · simp (maxSteps := 400000) only [candleErr, h2, h3, h4, inS, h5, turnedS, h6, go_sem, simprocAttr]
  have hc : candleErr s c = 0 := by simp only [candleErr, h2, h3, h4, inS, h5, turnedS, h6]; rfl
  have hxx := hx hc
  obtain ⟨_, hc0, hc1⟩ := candleOk_of hc
  simp (maxSteps := 400000) only [hc, hc0, hc1, hxx, go_sem, simprocAttr]
end Wk
end Abs
end Go.Proofs.YtbojkcmohgbpaaaGreatDoor
namespace Go.Proofs.YtbojkcmohgbpaaaGreatDoor
namespace Abs
namespace Wk
set_option linter.unusedSimpArgs false
set_option maxRecDepth 4000
structure Site (s : Shop) (c : Candle) (x : Wax) : Prop where
  so : ShopOk s
  co : CandleOk c
  c0 : 0 ≤ c.wax
  c1 : c.wax < (s.waxes.length : Int)
  hx : s.waxes[c.wax.toNat]? = some x
  xo : WaxOk x
structure SiteK (s : Shop) (k : Int) (w : Wick) : Prop where
  k0 : 0 ≤ k
  k1 : k < (s.wicks.length : Int)
  hw : s.wicks[k.toNat]? = some w
  wo : WickOk w
theorem at_of {α : Type} {l : List α} {k : Int} (h0 : 0 ≤ k) (h1 : k < (l.length : Int)) : ∃ w, l[k.toNat]? = some w := ⟨_, List.getElem?_eq_getElem (by omega)⟩
theorem siteC_of {s : Shop} {ks : List Int} {c : Candle} (h : askErr s ks c = 0) : ∃ x, Site s c x := by
  obtain ⟨h1, h2, _⟩ := ask_ok h
  obtain ⟨co, c0, c1⟩ := candleOk_of h2
  obtain ⟨x, hx⟩ := at_of c0 c1
  have so := shopOk_of h1
  exact ⟨x, so, co, c0, c1, hx, so.x x (List.mem_of_getElem? hx)⟩
theorem siteK_of {s : Shop} (so : ShopOk s) {k : Int} (h0 : 0 ≤ k) (h1 : k < (s.wicks.length : Int)) : ∃ w, SiteK s k w := by
  obtain ⟨w, hw⟩ := at_of h0 h1
  exact ⟨w, h0, h1, hw, so.w w (List.mem_of_getElem? hw)⟩
theorem site_of {s : Shop} {k : Int} {c : Candle} (h : askErr s [k] c = 0) : ∃ w x, Site s c x ∧ SiteK s k w := by
  obtain ⟨x, hs⟩ := siteC_of h
  obtain ⟨_, _, h3⟩ := ask_ok h
  obtain ⟨h4, h5⟩ := h3 k (by simp)
  obtain ⟨w, hw⟩ := siteK_of hs.so h4 h5
  exact ⟨w, x, hs, hw⟩
structure TOk (t : Truth) : Prop where
  p : 0 ≤ t.pull ∧ t.pull ≤ 1000
  f : 0 ≤ t.flow ∧ t.flow ≤ 300
  r : 0 ≤ t.rise ∧ t.rise ≤ 1000
  s : 0 ≤ t.spread ∧ t.spread ≤ 2000
  d : -90 ≤ t.draught ∧ t.draught ≤ 90
  c : 0 ≤ t.cold ∧ t.cold ≤ 300
def drawnOf (t : Truth) : Int := t.pull * t.flow * (100 + t.draught)
def burnOf (chill : Int) (t : Truth) : Burn := ⟨drawnOf t * 100, drawnOf t * t.rise, drawnOf t * t.spread - t.cold * chill * 100000⟩
theorem TOk.b {t : Truth} (h : TOk t) : (0 ≤ t.pull * t.flow ∧ t.pull * t.flow ≤ 1000 * 300) ∧ (0 ≤ drawnOf t ∧ drawnOf t ≤ 1000 * 300 * 190) ∧ (0 ≤ drawnOf t * t.rise ∧ drawnOf t * t.rise ≤ 1000 * 300 * 190 * 1000) ∧
    (0 ≤ drawnOf t * t.spread ∧ drawnOf t * t.spread ≤ 1000 * 300 * 190 * 2000) := by
  have h1 := mul_bd h.p.1 h.p.2 h.f.1 h.f.2
  have h2 := mul_bd h1.1 h1.2 (b := 100 + t.draught) (B := 190) (by have := h.d; omega) (by have := h.d; omega)
  exact ⟨h1, h2, mul_bd h2.1 h2.2 h.r.1 h.r.2, mul_bd h2.1 h2.2 h.s.1 h.s.2⟩
def prod4 (a b c d : Int) : Int := IntKind.i64.wrap (IntKind.i64.wrap (IntKind.i64.wrap (IntKind.i64.wrap (1 * a) * b) * c) * d)
theorem cProduct (a b c d : Int) : PCall Tryz.prog 80 [.agg [.int .i64 a, .int .i64 b, .int .i64 c, .int .i64 d]] (.int .i64 (prod4 a b c d)) := by
  refine pcall_of_wp draws (fn := Tryz.f80) (n := 15) (rs := [.tmp 2]) (by kernel_rfl) rfl rfl rfl ok80 (Nat.le_of_ble_eq_true rfl) ?_
  simp (maxSteps := 400000) only [go_sem, simprocAttr]
  refine W_unroll ?_
  simp (maxSteps := 400000) only [go_sem, simprocAttr]
  refine W_unroll ?_
  simp (maxSteps := 400000) only [go_sem, simprocAttr]
  refine W_unroll ?_
  simp (maxSteps := 400000) only [go_sem, simprocAttr]
  refine W_unroll ?_
  simp (maxSteps := 400000) only [go_sem, simprocAttr]
  refine W_unroll ?_
  simp (maxSteps := 400000) only [go_sem, simprocAttr]
  rfl
theorem cBurn (s : Shop) (c : Candle) (x : Wax) (t : Truth) (h : TOk t) (hc : 0 ≤ x.chill ∧ x.chill ≤ 50) : PCall Tryz.prog 43 [openPV s c x, t.pv] (burnOf x.chill t).pv := by
  obtain ⟨b1, b2, b3, b4⟩ := h.b
  have w1 : IntKind.i64.wrap (100 + t.draught) = 100 + t.draught := wrap_in (by have := h.d; omega) (by have := h.d; omega)
  have w2 : IntKind.i64.wrap (1 * t.pull) = t.pull := by rw [Int.one_mul]; exact wrap_in (by have := h.p; omega) (by have := h.p; omega)
  have w3 : IntKind.i64.wrap (t.pull * t.flow) = t.pull * t.flow := wrap_in (by omega) (by omega)
  have w4 : IntKind.i64.wrap (t.pull * t.flow * (100 + t.draught)) = drawnOf t := wrap_in (by unfold drawnOf at b2; omega) (by unfold drawnOf at b2; omega)
  have p0 : prod4 t.pull t.flow (100 + t.draught) 100 = drawnOf t * 100 := by unfold prod4; rw [w2, w3, w4]; exact wrap_in (by omega) (by omega)
  have p1 : prod4 t.pull t.flow (100 + t.draught) t.rise = drawnOf t * t.rise := by unfold prod4; rw [w2, w3, w4]; exact wrap_in (by omega) (by omega)
  have p2 : prod4 t.pull t.flow (100 + t.draught) t.spread = drawnOf t * t.spread := by unfold prod4; rw [w2, w3, w4]; exact wrap_in (by omega) (by omega)
  have bc := mul_bd h.c.1 h.c.2 hc.1 hc.2
  have q1 : IntKind.i64.wrap (t.cold * x.chill) = t.cold * x.chill := wrap_in (by omega) (by omega)
  have q2 : IntKind.i64.wrap (t.cold * x.chill * 1000000) = t.cold * x.chill * 1000000 := wrap_in (by omega) (by omega)
  have q3 : IntKind.i64.wrap ((t.cold * x.chill * 1000000).tdiv 10) = t.cold * x.chill * 100000 := by
    have : (t.cold * x.chill * 1000000).tdiv 10 = t.cold * x.chill * 100000 := by
      rw [show t.cold * x.chill * 1000000 = (t.cold * x.chill * 100000) * 10 by omega, Int.mul_tdiv_cancel _ (by decide)]
    rw [this]; exact wrap_in (by omega) (by omega)
  have q4 : IntKind.i64.wrap (drawnOf t * t.spread - t.cold * x.chill * 100000) = drawnOf t * t.spread - t.cold * x.chill * 100000 := wrap_in (by omega) (by omega)
  refine pcall_of_wp draws (fn := Tryz.f43) (n := 59) (rs := [.cell 4 39]) (by kernel_rfl) rfl rfl rfl ok43 (Nat.le_of_ble_eq_true rfl) ?_
  simp (maxSteps := 400000) only [go_sem, simprocAttr]
  refine W_unroll ?_
  simp (maxSteps := 400000) only [w1, go_sem, simprocAttr]
  refine WF_pure (cProduct _ _ _ _) rfl ?_
  simp (maxSteps := 400000) only [p0, go_sem, simprocAttr]
  refine W_unroll ?_
  simp (maxSteps := 400000) only [w1, go_sem, simprocAttr]
  refine WF_pure (cProduct _ _ _ _) rfl ?_
  simp (maxSteps := 400000) only [p1, go_sem, simprocAttr]
  refine W_unroll ?_
  simp (maxSteps := 400000) only [w1, go_sem, simprocAttr]
  refine WDQ_pure (cProduct _ _ _ _) rfl ?_
  simp (maxSteps := 400000) only [p2, q1, q2, q3, q4, go_sem, simprocAttr]
  refine W_unroll ?_
  simp (maxSteps := 400000) only [burnOf, go_sem, simprocAttr]
def leastT (w : Wick) (x : Wax) (c : Candle) : Truth := ⟨w.pull.lo, x.flow.lo, x.rise.lo, x.spread.lo, -c.draught, c.cold.hi⟩
def mostT (w : Wick) (x : Wax) (c : Candle) : Truth := ⟨w.pull.hi, x.flow.hi, x.rise.hi, x.spread.hi, c.draught, c.cold.lo⟩
theorem leastOk {w : Wick} {x : Wax} {c : Candle} (hw : WickOk w) (hx : WaxOk x) (hc : CandleOk c) : TOk (leastT w x c) := by
  have := hw.p; have := hx.f; have := hx.r; have := hx.s; have := hc.g; have := hc.c
  constructor <;> (simp only [leastT]; omega)
theorem mostOk {w : Wick} {x : Wax} {c : Candle} (hw : WickOk w) (hx : WaxOk x) (hc : CandleOk c) : TOk (mostT w x c) := by
  have := hw.p; have := hx.f; have := hx.r; have := hx.s; have := hc.g; have := hc.c
  constructor <;> (simp only [mostT]; omega)
theorem cTruths (s : Shop) (c : Candle) (x : Wax) (k : Int) (w : Wick) (hs : Site s c x) (hk : SiteK s k w) : PCall Tryz.prog 42 [openPV s c x, .int .i64 k] (.tuple [(leastT w x c).pv, (mostT w x c).pv]) := by
  have k0 := hk.k0
  have k1 := hk.k1
  have hw := hk.hw
  have hn : IntKind.i64.wrap (-c.draught) = -c.draught := wrap_in (by have := hs.co.g; omega) (by have := hs.co.g; omega)
  refine pcall_of_wp draws (fn := Tryz.f42) (n := 68) (rs := [.cell 4 47, .cell 5 47]) (by kernel_rfl) rfl rfl rfl ok42 (Nat.le_of_ble_eq_true rfl) ?_
  simp (maxSteps := 400000) only [H42, W_drawH, k0, k1, hw, hn, leastT, mostT, go_sem, simprocAttr]
def leastB (w : Wick) (x : Wax) (c : Candle) : Burn := burnOf x.chill (leastT w x c)
def mostB (w : Wick) (x : Wax) (c : Candle) : Burn := burnOf x.chill (mostT w x c)
theorem cEnds (s : Shop) (c : Candle) (x : Wax) (k : Int) (w : Wick) (hs : Site s c x) (hk : SiteK s k w) : PCall Tryz.prog 40 [openPV s c x, .int .i64 k] (.tuple [(leastB w x c).pv, (mostB w x c).pv]) := by
  refine pcall_of_wp draws (fn := Tryz.f40) (n := 26) (rs := [.cell 4 39, .cell 5 39]) (by kernel_rfl) rfl rfl rfl ok40 (Nat.le_of_ble_eq_true rfl) ?_
  simp (maxSteps := 400000) only [go_sem, simprocAttr]
  refine WF_pure (cTruths s c x k w hs hk) rfl ?_
  simp (maxSteps := 400000) only [go_sem, simprocAttr]
  refine WF_pure (cBurn s c x (leastT w x c) (leastOk hk.wo hs.xo hs.co) hs.xo.c) rfl ?_
  simp (maxSteps := 400000) only [go_sem, simprocAttr]
  refine WB_split (fun hb => ?_) (fun hb => ?_)
  · have he : leastT w x c = mostT w x c := by
      simp only [Bool.and_eq_true, beq_iff_eq] at hb
      simp only [leastT, mostT] at hb ⊢
      simp [hb]
    simp (maxSteps := 400000) only [leastB, mostB, he, go_sem, simprocAttr]
  · simp (maxSteps := 400000) only [go_sem, simprocAttr]
    refine WDQ_pure (cBurn s c x (mostT w x c) (mostOk hk.wo hs.xo hs.co) hs.xo.c) rfl ?_
    simp (maxSteps := 400000) only [leastB, mostB, go_sem, simprocAttr]
end Wk
end Abs
end Go.Proofs.YtbojkcmohgbpaaaGreatDoor
namespace Go.Proofs.YtbojkcmohgbpaaaGreatDoor
namespace Abs
namespace Wk
set_option linter.unusedSimpArgs false
set_option maxRecDepth 4000
def trueB (w : Wick) (x : Wax) (c : Candle) (t : Truth) : Bool :=
  gIn t.pull w.pull.lo w.pull.hi && (gIn t.flow x.flow.lo x.flow.hi && (gIn t.rise x.rise.lo x.rise.hi && (gIn t.spread x.spread.lo x.spread.hi && (gIn t.draught (-c.draught) c.draught && gIn t.cold c.cold.lo c.cold.hi))))
theorem tok_of {w : Wick} {x : Wax} {c : Candle} {t : Truth} (hw : WickOk w) (hx : WaxOk x) (hc : CandleOk c) (h : trueB w x c t = true) : TOk t := by
  simp only [trueB, Bool.and_eq_true, gIn_iff] at h
  have := hw.p; have := hx.f; have := hx.r; have := hx.s; have := hc.g; have := hc.c
  constructor <;> omega
def zeroB : Burn := ⟨0, 0, 0⟩
attribute [go_sem] zeroB
def atSpec (s : Shop) (k : Int) (c : Candle) (t : Truth) (w : Wick) (x : Wax) : Burn × Int :=
  if askErr s [k] c = 0 then (if trueB w x c t = true then (burnOf x.chill t, 0) else (zeroB, 7)) else (zeroB, askErr s [k] c)
theorem cWickAt (s : Shop) (k : Int) (c : Candle) (t : Truth) (w : Wick) (x : Wax) (h : askErr s [k] c = 0 → Site s c x ∧ SiteK s k w) :
    PCall Tryz.prog 9 [s.pv, .int .i64 k, c.pv, t.pv] (.tuple [(atSpec s k c t w x).1.pv, .int .i64 (atSpec s k c t w x).2]) := by
  refine pcall_of_wp draws (fn := Tryz.f9) (n := 94) (rs := [.cell 8 39, .tmp 9]) (by kernel_rfl) rfl rfl rfl ok9 (Nat.le_of_ble_eq_true rfl) ?_
  simp (maxSteps := 400000) only [go_sem, simprocAttr]
  refine WF_pure (cOpen s c [k] true _ rfl (by simp) x (fun h0 => (h h0).1.hx)) rfl ?_
  simp (maxSteps := 400000) only [go_sem, simprocAttr]
  cases h0 : (askErr s [k] c != 0)
  rotate_left
  · have h0' : ¬ askErr s [k] c = 0 := by simpa using h0
    simp (maxSteps := 400000) only [atSpec, if_neg h0', go_sem, simprocAttr]
  have h0' : askErr s [k] c = 0 := by simpa using h0
  obtain ⟨hs, hk⟩ := h h0'
  simp (maxSteps := 400000) only [if_pos h0', go_sem, simprocAttr]
  refine WF_pure (cTruths s c x k w hs hk) rfl ?_
  simp (maxSteps := 400000) only [leastT, mostT, go_sem, simprocAttr]
  refine WF_pure (cOut _ _ [_] true (by simp)) rfl ?_
  simp (maxSteps := 400000) only [List.any_cons, List.any_nil, go_sem, simprocAttr]
  cases h1 : gIn t.pull w.pull.lo w.pull.hi
  · simp (maxSteps := 400000) only [atSpec, if_pos h0', trueB, h1, go_sem, simprocAttr]
  simp (maxSteps := 400000) only [go_sem, simprocAttr]
  refine WF_pure (cOut _ _ [_] true (by simp)) rfl ?_
  simp (maxSteps := 400000) only [List.any_cons, List.any_nil, go_sem, simprocAttr]
  cases h2 : gIn t.flow x.flow.lo x.flow.hi
  · simp (maxSteps := 400000) only [atSpec, if_pos h0', trueB, h1, h2, go_sem, simprocAttr]
  simp (maxSteps := 400000) only [go_sem, simprocAttr]
  refine WF_pure (cOut _ _ [_] true (by simp)) rfl ?_
  simp (maxSteps := 400000) only [List.any_cons, List.any_nil, go_sem, simprocAttr]
  cases h3 : gIn t.rise x.rise.lo x.rise.hi
  · simp (maxSteps := 400000) only [atSpec, if_pos h0', trueB, h1, h2, h3, go_sem, simprocAttr]
  simp (maxSteps := 400000) only [go_sem, simprocAttr]
  refine WF_pure (cOut _ _ [_] true (by simp)) rfl ?_
  simp (maxSteps := 400000) only [List.any_cons, List.any_nil, go_sem, simprocAttr]
  cases h4 : gIn t.spread x.spread.lo x.spread.hi
  · simp (maxSteps := 400000) only [atSpec, if_pos h0', trueB, h1, h2, h3, h4, go_sem, simprocAttr]
  simp (maxSteps := 400000) only [go_sem, simprocAttr]
  refine WF_pure (cOut _ _ [_] true (by simp)) rfl ?_
  simp (maxSteps := 400000) only [List.any_cons, List.any_nil, go_sem, simprocAttr]
  cases h5 : gIn t.draught (-c.draught) c.draught
  · simp (maxSteps := 400000) only [atSpec, if_pos h0', trueB, h1, h2, h3, h4, h5, go_sem, simprocAttr]
  simp (maxSteps := 400000) only [go_sem, simprocAttr]
  refine WF_pure (cOut _ _ [_] true (by simp)) rfl ?_
  simp (maxSteps := 400000) only [List.any_cons, List.any_nil, go_sem, simprocAttr]
  cases h6 : gIn t.cold c.cold.lo c.cold.hi
  · simp (maxSteps := 400000) only [atSpec, if_pos h0', trueB, h1, h2, h3, h4, h5, h6, go_sem, simprocAttr]
  have htr : trueB w x c t = true := by simp [trueB, h1, h2, h3, h4, h5, h6]
  have hat : atSpec s k c t w x = (burnOf x.chill t, 0) := by rw [atSpec, if_pos h0', if_pos htr]
  rw [hat]
  simp (maxSteps := 400000) only [go_sem, simprocAttr]
  refine WF_pure (cBurn s c x t (tok_of hk.wo hs.xo hs.co htr) hs.xo.c) rfl ?_
  simp (maxSteps := 400000) only [go_sem, simprocAttr]
def burnSpec (s : Shop) (k : Int) (c : Candle) (w : Wick) (x : Wax) : Burn × Burn × Int :=
  if askErr s [k] c = 0 then (leastB w x c, mostB w x c, 0) else (zeroB, zeroB, askErr s [k] c)
theorem cWickBurn (s : Shop) (k : Int) (c : Candle) (w : Wick) (x : Wax) (h : askErr s [k] c = 0 → Site s c x ∧ SiteK s k w) :
    PCall Tryz.prog 7 [s.pv, .int .i64 k, c.pv] (.tuple [(burnSpec s k c w x).1.pv, (burnSpec s k c w x).2.1.pv, .int .i64 (burnSpec s k c w x).2.2]) := by
  refine pcall_of_wp draws (fn := Tryz.f7) (n := 31) (rs := [.cell 6 39, .cell 7 39, .tmp 8]) (by kernel_rfl) rfl rfl rfl ok7 (Nat.le_of_ble_eq_true rfl) ?_
  simp (maxSteps := 400000) only [H7, W_drawH, go_sem, simprocAttr]
  refine WF_pure (cOpen s c [k] true _ rfl (by simp) x (fun h0 => (h h0).1.hx)) rfl ?_
  simp (maxSteps := 400000) only [H7, W_drawH, go_sem, simprocAttr]
  cases h0 : (askErr s [k] c != 0)
  rotate_left
  · have h0' : ¬ askErr s [k] c = 0 := by simpa using h0
    simp (maxSteps := 400000) only [H7, W_drawH, burnSpec, if_neg h0', go_sem, simprocAttr]
  have h0' : askErr s [k] c = 0 := by simpa using h0
  obtain ⟨hs, hk⟩ := h h0'
  simp (maxSteps := 400000) only [H7, W_drawH, if_pos h0', go_sem, simprocAttr]
  refine WF_pure (cEnds s c x k w hs hk) rfl ?_
  simp (maxSteps := 400000) only [H7, W_drawH, burnSpec, if_pos h0', go_sem, simprocAttr]
theorem rate_pos {w : Wick} {x : Wax} {c : Candle} (hw : WickOk w) (hx : WaxOk x) (hc : CandleOk c) : 1 ≤ (leastB w x c).rate ∧ (leastB w x c).rate ≤ 5700000000 ∧ 1 ≤ (mostB w x c).rate ∧ (mostB w x c).rate ≤ 5700000000 := by
  have h1 := (leastOk hw hx hc).b.2.1
  have h2 := (mostOk hw hx hc).b.2.1
  have pos : ∀ t : Truth, 1 ≤ t.pull → 1 ≤ t.flow → -90 ≤ t.draught → 1 ≤ drawnOf t := by
    intro t h1 h2 h3
    unfold drawnOf
    have h4 : 1 * 1 ≤ t.pull * t.flow := Int.mul_le_mul h1 h2 (by omega) (by omega)
    have h5 : 1 * 1 ≤ (t.pull * t.flow) * (100 + t.draught) := Int.mul_le_mul (by omega) (by omega) (by omega) (by omega)
    omega
  have p1 := pos (leastT w x c) hw.p.1 hx.f.1 (by have := hc.g; simp only [leastT]; omega)
  have p2 := pos (mostT w x c) (by have := hw.p; simp only [mostT]; omega) (by have := hx.f; simp only [mostT]; omega) (by have := hc.g; simp only [mostT]; omega)
  simp only [leastB, mostB, burnOf]
  omega
def minSpan (w : Wick) (x : Wax) (c : Candle) (g : Int) : Span := ⟨(600 * g * 1000000).tdiv (mostB w x c).rate, (600 * g * 1000000 + (leastB w x c).rate - 1).tdiv (leastB w x c).rate⟩
def minSpec (s : Shop) (k : Int) (c : Candle) (g : Int) (w : Wick) (x : Wax) : Span × Int :=
  if askErr s [k] c = 0 then (if gIn g 1 100000 = true then (minSpan w x c g, 0) else (⟨0, 0⟩, 7)) else (⟨0, 0⟩, askErr s [k] c)
theorem tdiv_bd {a b : Int} (ha : 0 ≤ a) (hA : a ≤ 9000000000000000000) (hb : 1 ≤ b) : IntKind.i64.wrap (a.tdiv b) = a.tdiv b := by
  have h1 : 0 ≤ a.tdiv b := Int.tdiv_nonneg ha (by omega)
  have h2 : a.tdiv b ≤ a := Int.tdiv_le_self b ha
  exact wrap_in (by omega) (by omega)
theorem cWickMinutes (s : Shop) (k : Int) (c : Candle) (g : Int) (w : Wick) (x : Wax) (h : askErr s [k] c = 0 → Site s c x ∧ SiteK s k w) :
    PCall Tryz.prog 8 [s.pv, .int .i64 k, c.pv, .int .i64 g] (.tuple [(minSpec s k c g w x).1.pv, .int .i64 (minSpec s k c g w x).2]) := by
  refine pcall_of_wp draws (fn := Tryz.f8) (n := 54) (rs := [.cell 8 25, .tmp 9]) (by kernel_rfl) rfl rfl rfl ok8 (Nat.le_of_ble_eq_true rfl) ?_
  simp (maxSteps := 400000) only [go_sem, simprocAttr]
  refine WF_pure (cOpen s c [k] true _ rfl (by simp) x (fun h0 => (h h0).1.hx)) rfl ?_
  simp (maxSteps := 400000) only [go_sem, simprocAttr]
  cases h0 : (askErr s [k] c != 0)
  rotate_left
  · have h0' : ¬ askErr s [k] c = 0 := by simpa using h0
    simp (maxSteps := 400000) only [minSpec, if_neg h0', go_sem, simprocAttr]
  have h0' : askErr s [k] c = 0 := by simpa using h0
  obtain ⟨hs, hk⟩ := h h0'
  simp (maxSteps := 400000) only [if_pos h0', go_sem, simprocAttr]
  refine WF_pure (cOut _ _ [_] true (by simp)) rfl ?_
  simp (maxSteps := 400000) only [List.any_cons, List.any_nil, go_sem, simprocAttr]
  cases h1 : gIn g 1 100000
  · simp (maxSteps := 400000) only [minSpec, if_pos h0', h1, go_sem, simprocAttr]
  have hg := gIn_iff.1 h1
  obtain ⟨r1, r2, r3, r4⟩ := rate_pos hk.wo hs.xo hs.co
  have w1 : IntKind.i64.wrap (600 * g) = 600 * g := wrap_in (by omega) (by omega)
  have w2 : IntKind.i64.wrap (600 * g * 1000000) = 600 * g * 1000000 := wrap_in (by omega) (by omega)
  have w3 : IntKind.i64.wrap (600 * g * 1000000 + (leastB w x c).rate) = 600 * g * 1000000 + (leastB w x c).rate := wrap_in (by omega) (by omega)
  have w4 : IntKind.i64.wrap (600 * g * 1000000 + (leastB w x c).rate - 1) = 600 * g * 1000000 + (leastB w x c).rate - 1 := wrap_in (by omega) (by omega)
  have n1 : ¬ (leastB w x c).rate = 0 := by omega
  have n2 : ¬ (mostB w x c).rate = 0 := by omega
  have d1 := tdiv_bd (a := 600 * g * 1000000) (b := (mostB w x c).rate) (by omega) (by omega) r3
  have d2 := tdiv_bd (a := 600 * g * 1000000 + (leastB w x c).rate - 1) (b := (leastB w x c).rate) (by omega) (by omega) r1
  simp (maxSteps := 400000) only [go_sem, simprocAttr]
  refine WF_pure (cEnds s c x k w hs hk) rfl ?_
  simp (maxSteps := 400000) only [w1, w2, w3, w4, if_neg n1, if_neg n2, d1, d2, minSpec, if_pos h0', h1, minSpan, go_sem, simprocAttr]
end Wk
end Abs
end Go.Proofs.YtbojkcmohgbpaaaGreatDoor
