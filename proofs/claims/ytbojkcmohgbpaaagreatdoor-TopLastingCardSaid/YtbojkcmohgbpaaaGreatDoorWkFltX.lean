/-
  CONTRACTS: what is wrong with a candle, in the program and in the reference.
  CONTRACTS: Listed, Faults.
  CONTRACTS: the wicks that suit.
  CONTRACTS: the thinnest wick that suits.
-/
import Derived.Test.YtbojkcmohgbpaaaGreatDoorWkRunX
namespace Go.Proofs.YtbojkcmohgbpaaaGreatDoor
namespace Abs
namespace Wk
set_option linter.unusedSimpArgs false
set_option maxRecDepth 4000
structure BOk (b : Burn) : Prop where
  f : 0 ≤ b.flame ∧ b.flame ≤ 100000000000
  p : -2000000000 ≤ b.pool ∧ b.pool ≤ 200000000000
theorem bok_of {t : Truth} {chill : Int} (h : TOk t) (hc : 0 ≤ chill ∧ chill ≤ 50) : BOk (burnOf chill t) := by
  obtain ⟨b1, b2, b3, b4⟩ := h.b
  have bc := mul_bd h.c.1 h.c.2 hc.1 hc.2
  constructor <;> (simp only [burnOf]; omega)
def smokes (s : Shop) (b : Burn) : Bool := decide (s.flame.hi * 1000000 < b.flame)
def goesOut (s : Shop) (b : Burn) : Bool := decide (b.flame < s.flame.lo * 1000000)
def tunnels (s : Shop) (d : Int) (b : Burn) : Bool := decide (b.pool < s.pool.lo * d * 1000)
def runsOver (s : Shop) (d : Int) (b : Burn) : Bool := decide (s.pool.hi * d * 1000 < b.pool)
def flagL (b : Bool) (n : Int) : List Int := if b = true then [n] else []
def faultsOf (s : Shop) (d : Int) (l m : Burn) : List Int := flagL (smokes s m) 1 ++ (flagL (goesOut s l) 2 ++ (flagL (tunnels s d l) 3 ++ flagL (runsOver s d m) 4))
def intsPV (l : List Int) : PV := .slice 1 (l.map intPV) false
theorem pool_bd {s : Shop} (so : ShopOk s) {d : Int} (hd : 1 ≤ d ∧ d ≤ 2000) : (0 ≤ s.pool.lo * d ∧ s.pool.lo * d ≤ 2000 * 2000) ∧ (0 ≤ s.pool.hi * d ∧ s.pool.hi * d ≤ 2000 * 2000) :=
  ⟨mul_bd (by have := so.po; omega) (by have := so.po; omega) (by omega) hd.2, mul_bd (by have := so.po; omega) (by have := so.po; omega) (by omega) hd.2⟩
theorem cPool (s : Shop) (c : Candle) (x : Wax) (n : Int) (hn : 0 ≤ n * c.diameter ∧ n * c.diameter ≤ 2000 * 2000) : PCall Tryz.prog 82 [.int .i64 n, .ptr 1 [openPV s c x] 0 0] (.int .i64 (n * c.diameter * 1000)) := by
  have w1 : IntKind.i64.wrap (n * c.diameter) = n * c.diameter := wrap_in (by omega) (by omega)
  have w2 : IntKind.i64.wrap (n * c.diameter * 1000) = n * c.diameter * 1000 := wrap_in (by omega) (by omega)
  refine pcall_of_wp draws (fn := Tryz.f82) (n := 12) (rs := [.tmp 3]) (by kernel_rfl) rfl rfl rfl ok82 (Nat.le_of_ble_eq_true rfl) ?_
  simp (maxSteps := 400000) only [w1, w2, go_sem, simprocAttr]
theorem cSmokes (s : Shop) (c : Candle) (x : Wax) (so : ShopOk s) (l m : Burn) : PCall Tryz.prog 83 [l.pv, m.pv, .ptr 1 [openPV s c x] 0 0] (.bool (smokes s m)) := by
  have w1 : IntKind.i64.wrap (s.flame.hi * 1000000) = s.flame.hi * 1000000 := wrap_in (by have := so.fl; omega) (by have := so.fl; omega)
  refine pcall_of_wp draws (fn := Tryz.f83) (n := 16) (rs := [.tmp 5]) (by kernel_rfl) rfl rfl rfl ok83 (Nat.le_of_ble_eq_true rfl) ?_
  simp (maxSteps := 400000) only [w1, smokes, go_sem, simprocAttr]
theorem cGoesOut (s : Shop) (c : Candle) (x : Wax) (so : ShopOk s) (l m : Burn) : PCall Tryz.prog 84 [l.pv, m.pv, .ptr 1 [openPV s c x] 0 0] (.bool (goesOut s l)) := by
  have w1 : IntKind.i64.wrap (s.flame.lo * 1000000) = s.flame.lo * 1000000 := wrap_in (by have := so.fl; omega) (by have := so.fl; omega)
  refine pcall_of_wp draws (fn := Tryz.f84) (n := 16) (rs := [.tmp 5]) (by kernel_rfl) rfl rfl rfl ok84 (Nat.le_of_ble_eq_true rfl) ?_
  simp (maxSteps := 400000) only [w1, goesOut, go_sem, simprocAttr]
def poolPV (s : Shop) (c : Candle) (x : Wax) : PV := .ptr 1 [.func (.func 82) [] [.ptr 1 [openPV s c x] 0 0]] 0 0
attribute [go_sem] poolPV
theorem cTunnels (s : Shop) (c : Candle) (x : Wax) (so : ShopOk s) (co : CandleOk c) (l m : Burn) : PCall Tryz.prog 85 [l.pv, m.pv, poolPV s c x, .ptr 1 [openPV s c x] 0 0] (.bool (tunnels s c.diameter l)) := by
  refine pcall_of_wp draws (fn := Tryz.f85) (n := 18) (rs := [.tmp 6]) (by kernel_rfl) rfl rfl rfl ok85 (Nat.le_of_ble_eq_true rfl) ?_
  simp (maxSteps := 400000) only [go_sem, simprocAttr]
  refine WDQ_pure (cPool s c x s.pool.lo (pool_bd so co.d).1) rfl ?_
  simp (maxSteps := 400000) only [tunnels, go_sem, simprocAttr]
theorem cRuns (s : Shop) (c : Candle) (x : Wax) (so : ShopOk s) (co : CandleOk c) (l m : Burn) : PCall Tryz.prog 86 [l.pv, m.pv, poolPV s c x, .ptr 1 [openPV s c x] 0 0] (.bool (runsOver s c.diameter m)) := by
  refine pcall_of_wp draws (fn := Tryz.f86) (n := 18) (rs := [.tmp 6]) (by kernel_rfl) rfl rfl rfl ok86 (Nat.le_of_ble_eq_true rfl) ?_
  simp (maxSteps := 400000) only [go_sem, simprocAttr]
  refine WDQ_pure (cPool s c x s.pool.hi (pool_bd so co.d).2) rfl ?_
  simp (maxSteps := 400000) only [runsOver, go_sem, simprocAttr]
def outs (a b c d : Bool) : Nat → List Int
  | 0 => []
  | 1 => flagL a 1
  | 2 => flagL a 1 ++ flagL b 2
  | 3 => flagL a 1 ++ flagL b 2 ++ flagL c 3
  | _ => flagL a 1 ++ flagL b 2 ++ flagL c 3 ++ flagL d 4
theorem flagL_len (b : Bool) (n : Int) : (flagL b n).length ≤ 1 := by cases b <;> simp [flagL]
theorem outs_len (a b c d : Bool) (i : Nat) : (outs a b c d i).length ≤ 4 := by
  have h1 := flagL_len a 1; have h2 := flagL_len b 2; have h3 := flagL_len c 3; have h4 := flagL_len d 4
  match i with
  | 0 => simp [outs]
  | 1 => simp [outs]; omega
  | 2 => simp [outs]; omega
  | 3 => simp [outs]; omega
  | _ + 4 => simp [outs]; omega
theorem outs_end (s : Shop) (d : Int) (l m : Burn) : outs (smokes s m) (goesOut s l) (tunnels s d l) (runsOver s d m) 4 = faultsOf s d l m := by simp [outs, faultsOf]
theorem cFaultsIn (s : Shop) (c : Candle) (x : Wax) (k : Int) (w : Wick) (hs : Site s c x) (hk : SiteK s k w) : PCall Tryz.prog 50 [openPV s c x, .int .i64 k] (intsPV (faultsOf s c.diameter (leastB w x c) (mostB w x c))) := by
  refine pcall_of_wp_frzN draws (fn := Tryz.f50) (n := 45) (rs := [.tmp 4]) (by kernel_rfl) rfl rfl rfl ok50 (Nat.le_of_ble_eq_true rfl) ?_
  simp (maxSteps := 400000) only [go_sem, simprocAttr]
  refine WF_pure (cEnds s c x k w hs hk) rfl ?_
  simp (maxSteps := 400000) only [go_sem, simprocAttr]
  refine W_loop_nil 4 1 (by simp (maxSteps := 400000) only [go_sem, simprocAttr]) ?_
  simp (maxSteps := 400000) only [go_sem, simprocAttr]
  generalize ho : outs (smokes s (mostB w x c)) (goesOut s (leastB w x c)) (tunnels s c.diameter (leastB w x c)) (runsOver s c.diameter (mostB w x c)) = o
  have hlen : ∀ i, (o i).length + 1 ≤ room := fun i => by
    have := outs_len (smokes s (mostB w x c)) (goesOut s (leastB w x c)) (tunnels s c.diameter (leastB w x c)) (runsOver s c.diameter (mostB w x c)) i
    rw [ho] at this
    simp only [room]; omega
  refine W_loopS [7, 8, 27, 28] (σ := Nat) (fun i => i ≤ 4) (fun i => 4 - i) (fun i => [(4, .slice 5 (o i).length 0 (o i).length), (29, .p (.int .i64 i))]) (fun i h => h.set 5 (.row 1 ((o i).map fun n => .p (.int .i64 n)))) 0 (by omega) ?_ ?_
  · have h0 : o 0 = [] := by rw [← ho]; rfl
    simp (maxSteps := 400000) only [h0, go_sem, simprocAttr]
  intro i hi
  have hcase : i = 0 ∨ i = 1 ∨ i = 2 ∨ i = 3 ∨ i = 4 := by omega
  rcases hcase with rfl | rfl | rfl | rfl | rfl
  · have hl := hlen 0
    have h1 : o 1 = o 0 ++ flagL (smokes s (mostB w x c)) 1 := by rw [← ho]; simp [outs]
    simp (maxSteps := 400000) only [go_sem, simprocAttr]
    refine WF_frz (cSmokes s c x hs.so (leastB w x c) (mostB w x c)) ?_ (.bool _) ?_
    · simp (maxSteps := 400000) only [go_sem, simprocAttr]
    simp (maxSteps := 400000) only [go_sem, simprocAttr]
    cases hb : smokes s (mostB w x c)
    · have h1' : o 1 = o 0 := by rw [h1, hb]; simp [flagL]
      simp (maxSteps := 400000) only [go_sem, simprocAttr]
      refine WQ_headA 1 (by omega) (by omega) ?_
      simp (maxSteps := 400000) only [h1', go_sem, simprocAttr]
    · have h1' : o 1 = o 0 ++ [1] := by rw [h1, hb]; rfl
      simp (maxSteps := 400000) only [hl, go_sem, simprocAttr]
      refine WQ_headA 1 (by omega) (by omega) ?_
      simp (maxSteps := 400000) only [h1', List.length_append, List.map_append, go_sem, simprocAttr]
  · have hl := hlen 1
    have h1 : o 2 = o 1 ++ flagL (goesOut s (leastB w x c)) 2 := by rw [← ho]; simp [outs]
    simp (maxSteps := 400000) only [go_sem, simprocAttr]
    refine WF_frz (cGoesOut s c x hs.so (leastB w x c) (mostB w x c)) ?_ (.bool _) ?_
    · simp (maxSteps := 400000) only [go_sem, simprocAttr]
    simp (maxSteps := 400000) only [go_sem, simprocAttr]
    cases hb : goesOut s (leastB w x c)
    · have h1' : o 2 = o 1 := by rw [h1, hb]; simp [flagL]
      simp (maxSteps := 400000) only [go_sem, simprocAttr]
      refine WQ_headA 2 (by omega) (by omega) ?_
      simp (maxSteps := 400000) only [h1', go_sem, simprocAttr]
    · have h1' : o 2 = o 1 ++ [2] := by rw [h1, hb]; rfl
      simp (maxSteps := 400000) only [hl, go_sem, simprocAttr]
      refine WQ_headA 2 (by omega) (by omega) ?_
      simp (maxSteps := 400000) only [h1', List.length_append, List.map_append, go_sem, simprocAttr]
  · have hl := hlen 2
    have h1 : o 3 = o 2 ++ flagL (tunnels s c.diameter (leastB w x c)) 3 := by rw [← ho]; simp [outs]
    simp (maxSteps := 400000) only [go_sem, simprocAttr]
    refine WF_frz (cTunnels s c x hs.so hs.co (leastB w x c) (mostB w x c)) ?_ (.bool _) ?_
    · simp (maxSteps := 400000) only [go_sem, simprocAttr]
    simp (maxSteps := 400000) only [go_sem, simprocAttr]
    cases hb : tunnels s c.diameter (leastB w x c)
    · have h1' : o 3 = o 2 := by rw [h1, hb]; simp [flagL]
      simp (maxSteps := 400000) only [go_sem, simprocAttr]
      refine WQ_headA 3 (by omega) (by omega) ?_
      simp (maxSteps := 400000) only [h1', go_sem, simprocAttr]
    · have h1' : o 3 = o 2 ++ [3] := by rw [h1, hb]; rfl
      simp (maxSteps := 400000) only [hl, go_sem, simprocAttr]
      refine WQ_headA 3 (by omega) (by omega) ?_
      simp (maxSteps := 400000) only [h1', List.length_append, List.map_append, go_sem, simprocAttr]
  · have hl := hlen 3
    have h1 : o 4 = o 3 ++ flagL (runsOver s c.diameter (mostB w x c)) 4 := by rw [← ho]; simp [outs]
    simp (maxSteps := 400000) only [go_sem, simprocAttr]
    refine WF_frz (cRuns s c x hs.so hs.co (leastB w x c) (mostB w x c)) ?_ (.bool _) ?_
    · simp (maxSteps := 400000) only [go_sem, simprocAttr]
    simp (maxSteps := 400000) only [go_sem, simprocAttr]
    cases hb : runsOver s c.diameter (mostB w x c)
    · have h1' : o 4 = o 3 := by rw [h1, hb]; simp [flagL]
      simp (maxSteps := 400000) only [go_sem, simprocAttr]
      refine WQ_headA 4 (by omega) (by omega) ?_
      simp (maxSteps := 400000) only [h1', go_sem, simprocAttr]
    · have h1' : o 4 = o 3 ++ [4] := by rw [h1, hb]; rfl
      simp (maxSteps := 400000) only [hl, go_sem, simprocAttr]
      refine WQ_headA 4 (by omega) (by omega) ?_
      simp (maxSteps := 400000) only [h1', List.length_append, List.map_append, go_sem, simprocAttr]
  · have h4 : o 4 = faultsOf s c.diameter (leastB w x c) (mostB w x c) := by rw [← ho]; exact outs_end _ _ _ _
    simp (maxSteps := 400000) only [h4, intsPV, go_sem, simprocAttr]
    first | rfl | exact .inl rfl | exact ⟨_, _, rfl, rfl, .inr ⟨rfl, 1, rfl⟩, .inl rfl, trivial⟩ | exact ⟨_, _, rfl, rfl, .inl rfl, .inl rfl, trivial⟩ | exact .inl (.inl rfl) | exact .inl (.inr ⟨rfl, 1, rfl⟩) | exact .inr ⟨_, _, rfl, rfl, .inl rfl, .inl rfl, trivial⟩ | exact .inr ⟨_, _, rfl, rfl, .inr ⟨rfl, 1, rfl⟩, .inl rfl, trivial⟩ | exact ⟨1, rfl⟩ | (simp; done) | (refine .inr ⟨_, _, rfl, rfl, ?_⟩; repeat' (first | exact trivial | exact .inl rfl | exact .inr ⟨rfl, 1, rfl⟩ | refine ⟨?_, ?_⟩))
theorem drawn_mono {a b : Truth} (h0 : 0 ≤ a.pull) (h1 : a.pull ≤ b.pull) (h2 : 0 ≤ a.flow) (h3 : a.flow ≤ b.flow) (h4 : -100 ≤ a.draught) (h5 : a.draught ≤ b.draught) : 0 ≤ drawnOf a ∧ drawnOf a ≤ drawnOf b := by
  have h6 : 0 ≤ a.pull * a.flow := Int.mul_nonneg h0 h2
  have h7 : a.pull * a.flow ≤ b.pull * b.flow := Int.mul_le_mul h1 h3 h2 (by omega)
  exact ⟨Int.mul_nonneg h6 (by omega), Int.mul_le_mul h7 (by omega) (by omega) (by omega)⟩
theorem burn_mono {a b : Truth} {chill : Int} (hc : 0 ≤ chill) (h0 : 0 ≤ a.pull) (h1 : a.pull ≤ b.pull) (h2 : 0 ≤ a.flow) (h3 : a.flow ≤ b.flow) (h4 : -100 ≤ a.draught) (h5 : a.draught ≤ b.draught) (h6 : 0 ≤ a.rise) (h7 : a.rise ≤ b.rise)
    (h8 : 0 ≤ a.spread) (h9 : a.spread ≤ b.spread) (h10 : b.cold ≤ a.cold) : (burnOf chill a).rate ≤ (burnOf chill b).rate ∧ (burnOf chill a).flame ≤ (burnOf chill b).flame ∧ (burnOf chill a).pool ≤ (burnOf chill b).pool := by
  obtain ⟨d0, d1⟩ := drawn_mono h0 h1 h2 h3 h4 h5
  have e1 : drawnOf a * a.rise ≤ drawnOf b * b.rise := Int.mul_le_mul d1 h7 h6 (by omega)
  have e2 : drawnOf a * a.spread ≤ drawnOf b * b.spread := Int.mul_le_mul d1 h9 h8 (by omega)
  have e3 : b.cold * chill ≤ a.cold * chill := Int.mul_le_mul_of_nonneg_right h10 hc
  simp only [burnOf]
  omega
def faultsSpec (s : Shop) (k : Int) (c : Candle) (w : Wick) (x : Wax) : List Int × Int :=
  if askErr s [k] c = 0 then (faultsOf s c.diameter (leastB w x c) (mostB w x c), 0) else ([], askErr s [k] c)
theorem cWickFaults (s : Shop) (k : Int) (c : Candle) (w : Wick) (x : Wax) (h : askErr s [k] c = 0 → Site s c x ∧ SiteK s k w) :
    PCall Tryz.prog 19 [s.pv, .int .i64 k, c.pv] (.tuple [intsPV (faultsSpec s k c w x).1, .int .i64 (faultsSpec s k c w x).2]) := by
  refine pcall_of_wp_frzN draws (fn := Tryz.f19) (n := 24) (rs := [.tmp 6, .tmp 7]) (by kernel_rfl) rfl rfl rfl ok19 (Nat.le_of_ble_eq_true rfl) ?_
  simp (maxSteps := 400000) only [go_sem, simprocAttr]
  refine WF_pure (cOpen s c [k] true _ rfl (by simp) x (fun h0 => (h h0).1.hx)) rfl ?_
  simp (maxSteps := 400000) only [go_sem, simprocAttr]
  cases h0 : (askErr s [k] c != 0)
  rotate_left
  · have h0' : ¬ askErr s [k] c = 0 := by simpa using h0
    simp (maxSteps := 400000) only [faultsSpec, if_neg h0', intsPV, go_sem, simprocAttr]
    first | rfl | exact .inl rfl | exact ⟨_, _, rfl, rfl, .inr ⟨rfl, 1, rfl⟩, .inl rfl, trivial⟩ | exact ⟨_, _, rfl, rfl, .inl rfl, .inl rfl, trivial⟩ | exact .inl (.inl rfl) | exact .inl (.inr ⟨rfl, 1, rfl⟩) | exact .inr ⟨_, _, rfl, rfl, .inl rfl, .inl rfl, trivial⟩ | exact .inr ⟨_, _, rfl, rfl, .inr ⟨rfl, 1, rfl⟩, .inl rfl, trivial⟩ | exact ⟨1, rfl⟩ | (simp; done) | (refine .inr ⟨_, _, rfl, rfl, ?_⟩; repeat' (first | exact trivial | exact .inl rfl | exact .inr ⟨rfl, 1, rfl⟩ | refine ⟨?_, ?_⟩))
  have h0' : askErr s [k] c = 0 := by simpa using h0
  obtain ⟨hs, hk⟩ := h h0'
  simp (maxSteps := 400000) only [if_pos h0', go_sem, simprocAttr]
  refine WF_pure (cFaultsIn s c x k w hs hk) rfl ?_
  simp (maxSteps := 400000) only [faultsSpec, if_pos h0', intsPV, go_sem, simprocAttr]
end Wk
end Abs
end Go.Proofs.YtbojkcmohgbpaaaGreatDoor
namespace Go.Proofs.YtbojkcmohgbpaaaGreatDoor
namespace Abs
namespace Wk
set_option linter.unusedSimpArgs false
set_option maxRecDepth 4000
def okW (s : Shop) (c : Candle) (x : Wax) (w : Wick) : Bool := (faultsOf s c.diameter (leastB w x c) (mostB w x c)).length == 0
def suitsGo (s : Shop) (c : Candle) (x : Wax) : List Wick → Nat → List Int
  | [], _ => []
  | w :: r, i => if okW s c x w = true then (i : Int) :: suitsGo s c x r (i + 1) else suitsGo s c x r (i + 1)
theorem site_at {s : Shop} {c : Candle} {x : Wax} (hs : Site s c x) {done r : List Wick} {w : Wick} (e : s.wicks = done ++ w :: r) : SiteK s (done.length : Int) w :=
  ⟨by omega, by rw [e]; simp <;> omega, by rw [e]; simp, hs.so.w w (by rw [e]; simp)⟩
def suitPV (s : Shop) (c : Candle) (x : Wax) : PV := .func (.func 88) [] [.ptr 1 [openPV s c x] 0 0]
theorem iSuiting (s : Shop) (c : Candle) (x : Wax) (hs : Site s c x) : Iter Tryz.prog (suitPV s c x) ((suitsGo s c x s.wicks 0).map intPV) := by
  refine ⟨_, _, _, rfl, fun id Inv Fin h0 hlen hy hi => ?_⟩
  have lw := hs.so.lw
  refine hcall_of_wp draws (fn := Tryz.f88) (n := 25) (rs := []) (by kernel_rfl) rfl rfl rfl ok88 (Nat.le_of_ble_eq_true rfl) ?_
  simp (maxSteps := 400000) only [go_sem, simprocAttr]
  refine W_loopK [0, 1, 9] (σ := List Wick × List Wick × List Int × Heap) (fun q => s.wicks = q.1 ++ q.2.1 ∧ suitsGo s c x s.wicks 0 = q.2.2.1 ++ suitsGo s c x q.2.1 q.1.length ∧ Inv q.2.2.1.length q.2.2.2) (fun q => q.2.1.length)
    (fun q => [(10, .p (.int .i64 q.1.length))]) (fun q => q.2.2.2) ([], s.wicks, [], h0) ⟨rfl, rfl, hi⟩ rfl ?_ ?_
  · simp (maxSteps := 400000) only [go_sem, simprocAttr]
  rintro ⟨done, rest, pre, h⟩ ⟨e1, e2, hI⟩
  dsimp only at e1 e2 hI
  cases rest with
  | nil =>
    have hlt : ¬ ((done.length : Int) < (s.wicks.length : Int)) := by rw [e1]; simp
    simp (maxSteps := 400000) only [hlt, go_sem, simprocAttr]
    refine .inl ?_
    rw [e2, suitsGo, List.append_nil]
    exact hI
  | cons w r =>
    obtain ⟨hx, hlt⟩ := list_at e1
    have hnx : IntKind.i64.wrap ((done.length : Int) + 1) = (((done ++ [w]).length : Nat) : Int) := wrap_add (by omega) (by simp [room]; omega) (by simp)
    have hk := site_at hs e1
    rw [suitsGo] at e2
    simp (maxSteps := 400000) only [hlt, go_sem, simprocAttr]
    refine WF_pure (cFaultsIn s c x _ w hs hk) rfl ?_
    simp (maxSteps := 400000) only [intsPV, go_sem, simprocAttr]
    have hok : ((((faultsOf s c.diameter (leastB w x c) (mostB w x c)).length : Nat) : Int) == 0) = okW s c x w := by
      unfold okW
      rw [Bool.eq_iff_iff]; simp
    rw [hok]
    cases hb : okW s c x w
    · simp (maxSteps := 400000) only [go_sem, simprocAttr]
      refine WQ_headK (done ++ [w], r, pre, h) ⟨by simp [e1], by rw [e2, hb]; simp, hI⟩ (by simp) rfl ?_
      simp (maxSteps := 400000) only [hnx, go_sem, simprocAttr]
    · rw [hb, if_pos rfl] at e2
      have hget : ((suitsGo s c x s.wicks 0).map intPV)[pre.length]? = some (.int .i64 done.length) := by rw [e2]; simp [intPV]
      simp (maxSteps := 400000) only [go_sem, simprocAttr]
      refine WR_yld (hy pre.length _ h hget hI) (fun v h' hr => ?_) (fun v h' hr => ?_)
      rotate_left
      · rcases hr with ⟨hr, _⟩ | ⟨hr, _⟩ <;> cases hr
      rcases hr with ⟨hr, hI'⟩ | ⟨hr, hF, _⟩
      · cases hr
        simp (maxSteps := 400000) only [go_sem, simprocAttr]
        refine WQ_headK (done ++ [w], r, pre ++ [(done.length : Int)], h') ⟨by simp [e1], by rw [e2]; simp, by simpa using hI'⟩ (by simp) rfl ?_
        simp (maxSteps := 400000) only [hnx, go_sem, simprocAttr]
      · cases hr
        simp (maxSteps := 400000) only [go_sem, simprocAttr]
        exact .inr hF
theorem cSuiting (s : Shop) (c : Candle) (x : Wax) : PCall Tryz.prog 52 [openPV s c x] (suitPV s c x) := by
  refine pcall_of_wp_frz draws (fn := Tryz.f52) (n := 4) (rs := [.tmp 2]) (by kernel_rfl) rfl rfl rfl ok52 (Nat.le_of_ble_eq_true rfl) ?_
  simp (maxSteps := 400000) only [suitPV, go_sem, simprocAttr]
theorem take_snoc {α : Type} {l : List α} {k : Nat} {x : α} (h : l[k]? = some x) : l.take (k + 1) = l.take k ++ [x] := by
  rw [List.take_add_one, h]; rfl
theorem cAppendSeq (fv : PV) (l : List Int) (hl : l.length < 1000000) (hi : Iter Tryz.prog fv (l.map intPV)) : PCall Tryz.prog 87 [.nilslice, fv] (.slice 1 (l.map intPV) false) := by
  refine pcall_of_wp_frzN draws (fn := Tryz.f87) (n := 13) (rs := [.tmp 4]) (by kernel_rfl) rfl rfl rfl ok87 (Nat.le_of_ble_eq_true rfl) ?_
  simp (maxSteps := 400000) only [go_sem, simprocAttr]
  refine W_iter (l := l.map intPV) (fun o k h => (k = 0 ∧ h = [.row 1 [.p .nilslice], .dblock, o]) ∨ (k ≠ 0 ∧ k ≤ l.length ∧ h = [.row 1 [.slice 3 k 0 k], .dblock, o, .row 1 ((l.take k).map fun n => .p (.int .i64 n))])) (fun _ _ => False)
    rfl (by simp (maxSteps := 400000) only [go_sem, simprocAttr]) hi draws (by kernel_rfl) rfl (by kernel_rfl) (by kernel_rfl) ?_ ?_ ?_ ?_ ?_ (fun _ _ h => h.elim)
  · rintro o k h (⟨rfl, rfl⟩ | ⟨hk, _, rfl⟩) <;> simp
  · rintro o k h (⟨rfl, rfl⟩ | ⟨hk, _, rfl⟩) <;> simp
  · intro o
    exact .inl ⟨rfl, rfl⟩
  · intro oR oB oD k v h hv hI
    have hv' : ∃ n, l[k]? = some n ∧ v = .int .i64 n := by
      rw [List.getElem?_map, Option.map_eq_some_iff] at hv
      obtain ⟨n, h1, rfl⟩ := hv
      exact ⟨n, h1, rfl⟩
    obtain ⟨n, hn, rfl⟩ := hv'
    have hlt : k < l.length := (List.getElem?_eq_some_iff.1 hn).1
    rcases hI with ⟨rfl, rfl⟩ | ⟨hk, hkl, rfl⟩
    · have hr : (1 : Nat) ≤ room := by simp [room]
      have ht := take_snoc hn
      simp (maxSteps := 400000) only [hr, go_sem, simprocAttr]
      first | exact ⟨by omega, by rw [ht]; rfl⟩ | exact .inl (.inr ⟨by omega, by rw [ht]; rfl⟩)
    · have hr : k + 1 ≤ room := by simp [room]; omega
      have ht := take_snoc hn
      have hlen : (l.take k).length = k := by simp; omega
      simp (maxSteps := 400000) only [hr, hlen, go_sem, simprocAttr]
      refine ⟨by omega, ?_⟩
      rw [ht, List.map_append]
      rfl
  · rintro o h (⟨h0, rfl⟩ | ⟨h0, _, rfl⟩)
    · have : l = [] := by simpa using h0
      subst this
      simp (maxSteps := 400000) only [leave_collected, go_sem, simprocAttr]
      first | rfl | exact .inl rfl | exact ⟨_, _, rfl, rfl, .inr ⟨rfl, 1, rfl⟩, .inl rfl, trivial⟩ | exact ⟨_, _, rfl, rfl, .inl rfl, .inl rfl, trivial⟩ | exact .inl (.inl rfl) | exact .inl (.inr ⟨rfl, 1, rfl⟩) | exact .inr ⟨_, _, rfl, rfl, .inl rfl, .inl rfl, trivial⟩ | exact .inr ⟨_, _, rfl, rfl, .inr ⟨rfl, 1, rfl⟩, .inl rfl, trivial⟩ | exact ⟨1, rfl⟩ | (simp; done) | (refine .inr ⟨_, _, rfl, rfl, ?_⟩; repeat' (first | exact trivial | exact .inl rfl | exact .inr ⟨rfl, 1, rfl⟩ | refine ⟨?_, ?_⟩))
    · have hlen : (l.map intPV).length = l.length := by simp
      have h1 : l.take l.length = l := by simp
      rw [hlen, h1]
      simp (maxSteps := 400000) only [leave_collected, go_sem, simprocAttr]
      first | rfl | exact .inl rfl | exact ⟨_, _, rfl, rfl, .inr ⟨rfl, 1, rfl⟩, .inl rfl, trivial⟩ | exact ⟨_, _, rfl, rfl, .inl rfl, .inl rfl, trivial⟩ | exact .inl (.inl rfl) | exact .inl (.inr ⟨rfl, 1, rfl⟩) | exact .inr ⟨_, _, rfl, rfl, .inl rfl, .inl rfl, trivial⟩ | exact .inr ⟨_, _, rfl, rfl, .inr ⟨rfl, 1, rfl⟩, .inl rfl, trivial⟩ | exact ⟨1, rfl⟩ | (simp; done) | (refine .inr ⟨_, _, rfl, rfl, ?_⟩; repeat' (first | exact trivial | exact .inl rfl | exact .inr ⟨rfl, 1, rfl⟩ | refine ⟨?_, ?_⟩))
theorem cCollect (fv : PV) (l : List Int) (hl : l.length < 1000000) (hi : Iter Tryz.prog fv (l.map intPV)) : PCall Tryz.prog 51 [fv] (.slice 1 (l.map intPV) false) := by
  refine pcall_of_wp draws (fn := Tryz.f51) (n := 5) (rs := [.tmp 2]) (by kernel_rfl) rfl rfl rfl ok51 (Nat.le_of_ble_eq_true rfl) ?_
  simp (maxSteps := 400000) only [go_sem, simprocAttr]
  refine WF_pure (cAppendSeq fv l hl hi) rfl ?_
  simp (maxSteps := 400000) only [go_sem, simprocAttr]
theorem suits_len (s : Shop) (c : Candle) (x : Wax) : ∀ (l : List Wick) (i : Nat), (suitsGo s c x l i).length ≤ l.length
  | [], _ => Nat.le_refl _
  | w :: r, i => by
    have := suits_len s c x r (i + 1)
    unfold suitsGo
    split <;> simp <;> omega
def suitsSpec (s : Shop) (c : Candle) (x : Wax) : List Int × Int := if askErr s [] c = 0 then (suitsGo s c x s.wicks 0, 0) else ([], askErr s [] c)
theorem cWickSuits (s : Shop) (c : Candle) (x : Wax) (h : askErr s [] c = 0 → Site s c x) : PCall Tryz.prog 20 [s.pv, c.pv] (.tuple [intsPV (suitsSpec s c x).1, .int .i64 (suitsSpec s c x).2]) := by
  refine pcall_of_wp_frzN draws (fn := Tryz.f20) (n := 20) (rs := [.tmp 4, .tmp 5]) (by kernel_rfl) rfl rfl rfl ok20 (Nat.le_of_ble_eq_true rfl) ?_
  simp (maxSteps := 400000) only [go_sem, simprocAttr]
  refine WF_pure ((cOpen s c [] false _ rfl (by simp) x (fun h0 => (h h0).hx)).argless (args' := [s.pv, c.pv, .nilslice]) ⟨.inl rfl, .inl rfl, .inr ⟨rfl, 1, rfl⟩, trivial⟩) rfl ?_
  simp (maxSteps := 400000) only [go_sem, simprocAttr]
  cases h0 : (askErr s [] c != 0)
  rotate_left
  · have h0' : ¬ askErr s [] c = 0 := by simpa using h0
    simp (maxSteps := 400000) only [suitsSpec, if_neg h0', intsPV, go_sem, simprocAttr]
    first | rfl | exact .inl rfl | exact ⟨_, _, rfl, rfl, .inr ⟨rfl, 1, rfl⟩, .inl rfl, trivial⟩ | exact ⟨_, _, rfl, rfl, .inl rfl, .inl rfl, trivial⟩ | exact .inl (.inl rfl) | exact .inl (.inr ⟨rfl, 1, rfl⟩) | exact .inr ⟨_, _, rfl, rfl, .inl rfl, .inl rfl, trivial⟩ | exact .inr ⟨_, _, rfl, rfl, .inr ⟨rfl, 1, rfl⟩, .inl rfl, trivial⟩ | exact ⟨1, rfl⟩ | (simp; done) | (refine .inr ⟨_, _, rfl, rfl, ?_⟩; repeat' (first | exact trivial | exact .inl rfl | exact .inr ⟨rfl, 1, rfl⟩ | refine ⟨?_, ?_⟩))
  have h0' : askErr s [] c = 0 := by simpa using h0
  have hs := h h0'
  simp (maxSteps := 400000) only [if_pos h0', go_sem, simprocAttr]
  refine WF_pure (cSuiting s c x) rfl ?_
  simp (maxSteps := 400000) only [go_sem, simprocAttr]
  refine WF_pure (cCollect _ _ (by have := suits_len s c x s.wicks 0; have := hs.so.lw; omega) (iSuiting s c x hs)) rfl ?_
  simp (maxSteps := 400000) only [suitsSpec, if_pos h0', intsPV, go_sem, simprocAttr]
def thr (s : Shop) (n : Int) : Int := match s.wicks[n.toNat]? with | some w => w.threads | none => 0
def bestGo (s : Shop) : List Int → Int → Int
  | [], b => b
  | n :: r, b => bestGo s r (if (decide (b < 0) || decide (thr s n < thr s b)) = true then n else b)
def valid (s : Shop) (n : Int) : Prop := 0 ≤ n ∧ n < (s.wicks.length : Int)
theorem suits_valid (s : Shop) (c : Candle) (x : Wax) : ∀ (l : List Wick) (i : Nat), i + l.length = s.wicks.length → ∀ n, n ∈ suitsGo s c x l i → valid s n
  | [], _, _, n, hn => by cases hn
  | w :: r, i, hi, n, hn => by
    unfold suitsGo at hn
    simp only [List.length_cons] at hi
    split at hn
    · rcases List.mem_cons.1 hn with rfl | hn
      · exact ⟨by omega, by omega⟩
      · exact suits_valid s c x r (i + 1) (by omega) n hn
    · exact suits_valid s c x r (i + 1) (by omega) n hn
theorem valid_at {s : Shop} {n : Int} (h : valid s n) : ∃ w, s.wicks[n.toNat]? = some w ∧ thr s n = w.threads := by
  obtain ⟨w, hw⟩ := at_of h.1 h.2
  exact ⟨w, hw, by simp [thr, hw]⟩
theorem best_valid (s : Shop) : ∀ (l : List Int) (b : Int), (∀ n, n ∈ l → valid s n) → (b = -1 ∨ valid s b) → bestGo s l b = -1 ∨ valid s (bestGo s l b)
  | [], b, _, hb => hb
  | n :: r, b, hl, hb => by
    unfold bestGo
    refine best_valid s r _ (fun m hm => hl m (by simp [hm])) ?_
    split
    · exact .inr (hl n (by simp))
    · exact hb
theorem best_append (s : Shop) : ∀ (l : List Int) (n b : Int), bestGo s (l ++ [n]) b = if (decide (bestGo s l b < 0) || decide (thr s n < thr s (bestGo s l b))) = true then n else bestGo s l b
  | [], n, b => rfl
  | m :: r, n, b => by
    rw [List.cons_append, bestGo, best_append s r n, bestGo]
def thinSpec (s : Shop) (c : Candle) (x : Wax) : Int × Int :=
  if askErr s [] c = 0 then (if bestGo s (suitsGo s c x s.wicks 0) (-1) < 0 then (0, 9) else (bestGo s (suitsGo s c x s.wicks 0) (-1), 0)) else (0, askErr s [] c)
theorem cWickThinnest (s : Shop) (c : Candle) (x : Wax) (h : askErr s [] c = 0 → Site s c x) : PCall Tryz.prog 21 [s.pv, c.pv] (.tuple [.int .i64 (thinSpec s c x).1, .int .i64 (thinSpec s c x).2]) := by
  refine pcall_of_wp draws (fn := Tryz.f21) (n := 49) (rs := [.tmp 4, .tmp 5]) (by kernel_rfl) rfl rfl rfl ok21 (Nat.le_of_ble_eq_true rfl) ?_
  simp (maxSteps := 400000) only [go_sem, simprocAttr]
  refine WF_pure ((cOpen s c [] false _ rfl (by simp) x (fun h0 => (h h0).hx)).argless (args' := [s.pv, c.pv, .nilslice]) ⟨.inl rfl, .inl rfl, .inr ⟨rfl, 1, rfl⟩, trivial⟩) rfl ?_
  by_cases h0' : askErr s [] c = 0
  rotate_left
  · have h0 : (askErr s [] c != 0) = true := by simpa using h0'
    simp (maxSteps := 400000) only [h0, thinSpec, if_neg h0', go_sem, simprocAttr]
  have h0 : (askErr s [] c != 0) = false := by simpa using h0'
  have hs := h h0'
  simp (maxSteps := 400000) only [h0, if_pos h0', go_sem, simprocAttr]
  refine WF_pure (cSuiting s c x) rfl ?_
  simp (maxSteps := 400000) only [go_sem, simprocAttr]
  generalize hl : suitsGo s c x s.wicks 0 = l
  have hval : ∀ n, n ∈ l → valid s n := by
    intro n hn
    rw [← hl] at hn
    exact suits_valid s c x s.wicks 0 (by simp) n hn
  have hit := iSuiting s c x hs
  rw [hl] at hit
  refine W_iter (l := l.map intPV) (fun o k h => k ≤ l.length ∧ h = [.row 6 [.p s.pv], .row 5 [.p c.pv], .row 1 [.p (openPV s c x)], .row 1 [.p (.int .i64 (bestGo s (l.take k) (-1)))], .dblock, o]) (fun _ _ => False)
    rfl (by simp (maxSteps := 400000) only [suitPV, go_sem, simprocAttr]) hit draws (by kernel_rfl) rfl (by kernel_rfl) (by kernel_rfl) ?_ ?_ ?_ ?_ ?_ (fun _ _ h => h.elim)
  · rintro o k h ⟨_, rfl⟩; simp
  · rintro o k h ⟨_, rfl⟩; simp
  · intro o
    refine ⟨by omega, ?_⟩
    simp (maxSteps := 400000) only [go_sem, simprocAttr]
    rfl
  · rintro oR oB oD k v h hv ⟨hk, rfl⟩
    have hv' : ∃ n, l[k]? = some n ∧ v = .int .i64 n := by
      rw [List.getElem?_map, Option.map_eq_some_iff] at hv
      obtain ⟨n, h1, rfl⟩ := hv
      exact ⟨n, h1, rfl⟩
    obtain ⟨n, hn, rfl⟩ := hv'
    have hlt : k < l.length := (List.getElem?_eq_some_iff.1 hn).1
    have hnv := hval n (List.mem_of_getElem? hn)
    obtain ⟨w, hw, ht⟩ := valid_at hnv
    have hb := best_append s (l.take k) n (-1)
    rw [← take_snoc hn] at hb
    have hbv := best_valid s (l.take k) (-1) (fun m hm => hval m (List.mem_of_mem_take hm)) (.inl rfl)
    generalize bestGo s (l.take k) (-1) = b at hb hbv
    have n0 := hnv.1
    have n1 := hnv.2
    simp (maxSteps := 400000) only [go_sem, simprocAttr]
    cases hneg : decide (b < 0)
    · have hbv' : valid s b := by
        rcases hbv with h | h
        · rw [h] at hneg; simp at hneg
        · exact h
      obtain ⟨w2, hw2, ht2⟩ := valid_at hbv'
      have b0 := hbv'.1
      have b1 := hbv'.2
      rw [hneg, ht, ht2] at hb
      simp (maxSteps := 400000) only [n0, n1, b0, b1, hw, hw2, go_sem, simprocAttr]
      cases hlt2 : decide (w.threads < w2.threads)
      · rw [hlt2] at hb
        simp (maxSteps := 400000) only [hb, go_sem, simprocAttr]
        exact hlt
      · rw [hlt2] at hb
        simp (maxSteps := 400000) only [hb, go_sem, simprocAttr]
        exact hlt
    · rw [hneg] at hb
      simp (maxSteps := 400000) only [hb, go_sem, simprocAttr]
      exact hlt
  · rintro o h ⟨_, rfl⟩
    have h1 : l.take (l.map intPV).length = l := by simp
    rw [h1]
    simp (maxSteps := 400000) only [leave_collected, go_sem, simprocAttr]
    cases hneg : decide (bestGo s l (-1) < 0)
    · have : ¬ bestGo s l (-1) < 0 := by simpa using hneg
      simp (maxSteps := 400000) only [thinSpec, if_pos h0', hl, if_neg this, leave_collected, go_sem, simprocAttr]
    · have : bestGo s l (-1) < 0 := by simpa using hneg
      simp (maxSteps := 400000) only [thinSpec, if_pos h0', hl, if_pos this, leave_collected, go_sem, simprocAttr]
end Wk
end Abs
end Go.Proofs.YtbojkcmohgbpaaaGreatDoor
