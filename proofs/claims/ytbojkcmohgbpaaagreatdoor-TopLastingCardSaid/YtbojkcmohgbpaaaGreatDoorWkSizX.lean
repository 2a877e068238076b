/-
  CONTRACTS: the diameters for which a wick suits.
  CONTRACTS: the helpers of the laws: the examples' data, lists that are equal, numbers of a range.
-/
import Derived.Test.YtbojkcmohgbpaaaGreatDoorWkFltX
import Derived.Test.YtbojkcmohgbpaaaGreatDoorAbsInvX
namespace Go.Proofs.YtbojkcmohgbpaaaGreatDoor
namespace Abs
namespace Wk
set_option linter.unusedSimpArgs false
set_option maxRecDepth 4000
def szHi (s : Shop) (l m : Burn) : Int :=
  if m.pool ≤ 0 ∨ s.pool.hi ≠ 0 then (if l.pool < 0 then 0 else if 0 < s.pool.lo then (if l.pool.tdiv (s.pool.lo * 1000) < 2000 then l.pool.tdiv (s.pool.lo * 1000) else 2000) else 2000) else 0
def szLo (s : Shop) (m : Burn) : Int :=
  if m.pool ≤ 0 ∨ s.pool.hi = 0 then 1 else (if 1 < (m.pool + s.pool.hi * 1000 - 1).tdiv (s.pool.hi * 1000) then (m.pool + s.pool.hi * 1000 - 1).tdiv (s.pool.hi * 1000) else 1)
def szBad (s : Shop) (l m : Burn) : Bool := goesOut s l || smokes s m
def szSpan (s : Shop) (l m : Burn) : Span × Int := if (decide (szHi s l m < szLo s m) || szBad s l m) = true then (⟨0, 0⟩, 9) else (⟨szLo s m, szHi s l m⟩, 0)
def sizesSpec (s : Shop) (k : Int) (c : Candle) (w : Wick) (x : Wax) : Span × Int := if askErr s [k] c = 0 then szSpan s (leastB w x c) (mostB w x c) else (⟨0, 0⟩, askErr s [k] c)
theorem cWickSizes (s : Shop) (k : Int) (c : Candle) (w : Wick) (x : Wax) (h : askErr s [k] c = 0 → Site s c x ∧ SiteK s k w) :
    PCall Tryz.prog 23 [s.pv, .int .i64 k, c.pv] (.tuple [(sizesSpec s k c w x).1.pv, .int .i64 (sizesSpec s k c w x).2]) := by
  refine pcall_of_wp draws (fn := Tryz.f23) (n := 124) (rs := [.cell 6 25, .tmp 7]) (by kernel_rfl) rfl rfl rfl ok23 (Nat.le_of_ble_eq_true rfl) ?_
  simp (maxSteps := 400000) only [go_sem, simprocAttr]
  refine WF_pure (cOpen s c [k] true _ rfl (by simp) x (fun h0 => (h h0).1.hx)) rfl ?_
  by_cases h0' : askErr s [k] c = 0
  rotate_left
  · have h0 : (askErr s [k] c != 0) = true := by simpa using h0'
    simp (maxSteps := 400000) only [h0, sizesSpec, if_neg h0', go_sem, simprocAttr]
  have h0 : (askErr s [k] c != 0) = false := by simpa using h0'
  obtain ⟨hs, hk⟩ := h h0'
  have hsp : sizesSpec s k c w x = szSpan s (leastB w x c) (mostB w x c) := by rw [sizesSpec, if_pos h0']
  rw [hsp]
  have bl := bok_of (leastOk hk.wo hs.xo hs.co) hs.xo.c
  have bm := bok_of (mostOk hk.wo hs.xo hs.co) hs.xo.c
  have hcE := cEnds s c x k w hs hk
  have po := hs.so.po
  have fl := hs.so.fl
  have e1 : leastB w x c = burnOf x.chill (leastT w x c) := rfl
  have e2 : mostB w x c = burnOf x.chill (mostT w x c) := rfl
  rw [← e1] at bl
  rw [← e2] at bm
  generalize leastB w x c = l at hcE bl ⊢
  generalize mostB w x c = m at hcE bm ⊢
  have w1 : IntKind.i64.wrap (s.pool.lo * 1000) = s.pool.lo * 1000 := wrap_in (by omega) (by omega)
  have w2 : IntKind.i64.wrap (s.pool.hi * 1000) = s.pool.hi * 1000 := wrap_in (by omega) (by omega)
  have w3 : IntKind.i64.wrap (m.pool + s.pool.hi * 1000) = m.pool + s.pool.hi * 1000 := wrap_in (by have := bm.p; omega) (by have := bm.p; omega)
  have w4 : IntKind.i64.wrap (m.pool + s.pool.hi * 1000 - 1) = m.pool + s.pool.hi * 1000 - 1 := wrap_in (by have := bm.p; omega) (by have := bm.p; omega)
  have w5 : IntKind.i64.wrap (s.flame.lo * 1000000) = s.flame.lo * 1000000 := wrap_in (by omega) (by omega)
  have w6 : IntKind.i64.wrap (s.flame.hi * 1000000) = s.flame.hi * 1000000 := wrap_in (by omega) (by omega)
  have t3 : decide (s.flame.hi * 1000000 < m.flame) = smokes s m := rfl
  have t4 : decide (l.flame < s.flame.lo * 1000000) = goesOut s l := rfl
  simp (maxSteps := 400000) only [h0, if_pos h0', go_sem, simprocAttr]
  refine WF_pure hcE rfl ?_
  simp (maxSteps := 400000) only [go_sem, simprocAttr]
  -- the last part of the way
  have key : ∀ lo hi : Int, lo = szLo s m → hi = szHi s l m → (decide (hi < lo) = true → szSpan s l m = (⟨0, 0⟩, 9)) ∧ (decide (hi < lo) = false → goesOut s l = true → szSpan s l m = (⟨0, 0⟩, 9)) ∧
      (decide (hi < lo) = false → goesOut s l = false → smokes s m = true → szSpan s l m = (⟨0, 0⟩, 9)) ∧ (decide (hi < lo) = false → goesOut s l = false → smokes s m = false → szSpan s l m = (⟨lo, hi⟩, 0)) := by
    rintro lo hi rfl rfl
    unfold szSpan szBad
    refine ⟨fun h => by rw [h]; rfl, fun h h2 => by rw [h, h2]; rfl, fun h h2 h3 => by rw [h, h2, h3]; rfl, fun h h2 h3 => by rw [h, h2, h3]; rfl⟩
  cases c1 : decide (l.pool < 0)
  · have c1' : ¬ l.pool < 0 := by simpa using c1
    simp (maxSteps := 400000) only [c1, go_sem, simprocAttr]
    cases c2 : decide (0 < s.pool.lo)
    · have c2' : ¬ 0 < s.pool.lo := by simpa using c2
      simp (maxSteps := 400000) only [c2, go_sem, simprocAttr]
      cases c3 : decide (m.pool ≤ 0)
      · have c3' : ¬ m.pool ≤ 0 := by simpa using c3
        simp (maxSteps := 400000) only [c3, go_sem, simprocAttr]
        cases c4 : (s.pool.hi == 0)
        · have c4' : ¬ s.pool.hi = 0 := by simpa using c4
          have n2 : ¬ (s.pool.hi * 1000 = 0) := by omega
          have n3 : 0 ≤ m.pool + s.pool.hi * 1000 - 1 := by omega
          have d2 := tdiv_bd (a := m.pool + s.pool.hi * 1000 - 1) (b := s.pool.hi * 1000) n3 (by have := bm.p; omega) (by omega)
          simp (maxSteps := 400000) only [w1, w2, w3, w4, d2, if_neg n2, go_sem, simprocAttr]
          have hlo : (if 1 < (m.pool + s.pool.hi * 1000 - 1).tdiv (s.pool.hi * 1000) then (m.pool + s.pool.hi * 1000 - 1).tdiv (s.pool.hi * 1000) else 1) = szLo s m := by unfold szLo; simp [c3', c4', c1', c2']
          have hhi : 2000 = szHi s l m := by unfold szHi; simp [c3', c4', c1', c2']
          obtain ⟨k1, k2, k3, k4⟩ := key _ _ hlo hhi
          cases hA : decide (2000 < (if 1 < (m.pool + s.pool.hi * 1000 - 1).tdiv (s.pool.hi * 1000) then (m.pool + s.pool.hi * 1000 - 1).tdiv (s.pool.hi * 1000) else 1))
          · simp (maxSteps := 400000) only [w5, t4, go_sem, simprocAttr]
            cases hB : goesOut s l
            · simp (maxSteps := 400000) only [w6, t3, go_sem, simprocAttr]
              cases hC : smokes s m
              · simp (maxSteps := 400000) only [k4 hA hB hC, go_sem, simprocAttr]
              · simp (maxSteps := 400000) only [k3 hA hB hC, go_sem, simprocAttr]
            · simp (maxSteps := 400000) only [k2 hA hB, go_sem, simprocAttr]
          · simp (maxSteps := 400000) only [k1 hA, go_sem, simprocAttr]
        · have c4' : s.pool.hi = 0 := by simpa using c4
          simp (maxSteps := 400000) only [c4, go_sem, simprocAttr]
          have hlo : 1 = szLo s m := by unfold szLo; simp [c3', c4', c1', c2']
          have hhi : 0 = szHi s l m := by unfold szHi; simp [c3', c4', c1', c2']
          obtain ⟨k1, k2, k3, k4⟩ := key _ _ hlo hhi
          simp (maxSteps := 400000) only [k1 (by decide), go_sem, simprocAttr]
      · have c3' : m.pool ≤ 0 := by simpa using c3
        simp (maxSteps := 400000) only [c3, w5, t4, go_sem, simprocAttr]
        have hlo : 1 = szLo s m := by unfold szLo; simp [c3', c1', c2']
        have hhi : 2000 = szHi s l m := by unfold szHi; simp [c3', c1', c2']
        obtain ⟨k1, k2, k3, k4⟩ := key _ _ hlo hhi
        have hA : decide ((2000 : Int) < 1) = false := by decide
        cases hB : goesOut s l
        · simp (maxSteps := 400000) only [w6, t3, go_sem, simprocAttr]
          cases hC : smokes s m
          · simp (maxSteps := 400000) only [k4 hA hB hC, go_sem, simprocAttr]
          · simp (maxSteps := 400000) only [k3 hA hB hC, go_sem, simprocAttr]
        · simp (maxSteps := 400000) only [k2 hA hB, go_sem, simprocAttr]
    · have c2' : 0 < s.pool.lo := by simpa using c2
      have n1 : ¬ (s.pool.lo * 1000 = 0) := by omega
      have d1 := tdiv_bd (a := l.pool) (b := s.pool.lo * 1000) (by omega) (by have := bl.p; omega) (by omega)
      simp (maxSteps := 400000) only [c2, w1, d1, if_neg n1, go_sem, simprocAttr]
      cases c3 : decide (m.pool ≤ 0)
      · have c3' : ¬ m.pool ≤ 0 := by simpa using c3
        simp (maxSteps := 400000) only [c3, go_sem, simprocAttr]
        cases c4 : (s.pool.hi == 0)
        · have c4' : ¬ s.pool.hi = 0 := by simpa using c4
          have n2 : ¬ (s.pool.hi * 1000 = 0) := by omega
          have n3 : 0 ≤ m.pool + s.pool.hi * 1000 - 1 := by omega
          have d2 := tdiv_bd (a := m.pool + s.pool.hi * 1000 - 1) (b := s.pool.hi * 1000) n3 (by have := bm.p; omega) (by omega)
          simp (maxSteps := 400000) only [w1, w2, w3, w4, d2, if_neg n2, go_sem, simprocAttr]
          have hlo : (if 1 < (m.pool + s.pool.hi * 1000 - 1).tdiv (s.pool.hi * 1000) then (m.pool + s.pool.hi * 1000 - 1).tdiv (s.pool.hi * 1000) else 1) = szLo s m := by unfold szLo; simp [c3', c4', c1', c2']
          have hhi : (if l.pool.tdiv (s.pool.lo * 1000) < 2000 then l.pool.tdiv (s.pool.lo * 1000) else 2000) = szHi s l m := by unfold szHi; simp [c3', c4', c1', c2']
          obtain ⟨k1, k2, k3, k4⟩ := key _ _ hlo hhi
          cases hA : decide ((if l.pool.tdiv (s.pool.lo * 1000) < 2000 then l.pool.tdiv (s.pool.lo * 1000) else 2000) < (if 1 < (m.pool + s.pool.hi * 1000 - 1).tdiv (s.pool.hi * 1000) then (m.pool + s.pool.hi * 1000 - 1).tdiv (s.pool.hi * 1000) else 1))
          · simp (maxSteps := 400000) only [w5, t4, go_sem, simprocAttr]
            cases hB : goesOut s l
            · simp (maxSteps := 400000) only [w6, t3, go_sem, simprocAttr]
              cases hC : smokes s m
              · simp (maxSteps := 400000) only [k4 hA hB hC, go_sem, simprocAttr]
              · simp (maxSteps := 400000) only [k3 hA hB hC, go_sem, simprocAttr]
            · simp (maxSteps := 400000) only [k2 hA hB, go_sem, simprocAttr]
          · simp (maxSteps := 400000) only [k1 hA, go_sem, simprocAttr]
        · have c4' : s.pool.hi = 0 := by simpa using c4
          simp (maxSteps := 400000) only [c4, go_sem, simprocAttr]
          have hlo : 1 = szLo s m := by unfold szLo; simp [c3', c4', c1', c2']
          have hhi : 0 = szHi s l m := by unfold szHi; simp [c3', c4', c1', c2']
          obtain ⟨k1, k2, k3, k4⟩ := key _ _ hlo hhi
          simp (maxSteps := 400000) only [k1 (by decide), go_sem, simprocAttr]
      · have c3' : m.pool ≤ 0 := by simpa using c3
        simp (maxSteps := 400000) only [c3, go_sem, simprocAttr]
        have hlo : 1 = szLo s m := by unfold szLo; simp [c3', c1', c2']
        have hhi : (if l.pool.tdiv (s.pool.lo * 1000) < 2000 then l.pool.tdiv (s.pool.lo * 1000) else 2000) = szHi s l m := by unfold szHi; simp [c3', c1', c2']
        obtain ⟨k1, k2, k3, k4⟩ := key _ _ hlo hhi
        cases hA : decide ((if l.pool.tdiv (s.pool.lo * 1000) < 2000 then l.pool.tdiv (s.pool.lo * 1000) else 2000) < 1)
        · simp (maxSteps := 400000) only [w5, t4, go_sem, simprocAttr]
          cases hB : goesOut s l
          · simp (maxSteps := 400000) only [w6, t3, go_sem, simprocAttr]
            cases hC : smokes s m
            · simp (maxSteps := 400000) only [k4 hA hB hC, go_sem, simprocAttr]
            · simp (maxSteps := 400000) only [k3 hA hB hC, go_sem, simprocAttr]
          · simp (maxSteps := 400000) only [k2 hA hB, go_sem, simprocAttr]
        · simp (maxSteps := 400000) only [k1 hA, go_sem, simprocAttr]
  · have c1' : l.pool < 0 := by simpa using c1
    simp (maxSteps := 400000) only [c1, go_sem, simprocAttr]
    cases c3 : decide (m.pool ≤ 0)
    · have c3' : ¬ m.pool ≤ 0 := by simpa using c3
      simp (maxSteps := 400000) only [c3, go_sem, simprocAttr]
      cases c4 : (s.pool.hi == 0)
      · have c4' : ¬ s.pool.hi = 0 := by simpa using c4
        have n2 : ¬ (s.pool.hi * 1000 = 0) := by omega
        have n3 : 0 ≤ m.pool + s.pool.hi * 1000 - 1 := by omega
        have d2 := tdiv_bd (a := m.pool + s.pool.hi * 1000 - 1) (b := s.pool.hi * 1000) n3 (by have := bm.p; omega) (by omega)
        simp (maxSteps := 400000) only [w1, w2, w3, w4, d2, if_neg n2, go_sem, simprocAttr]
        have hlo : (if 1 < (m.pool + s.pool.hi * 1000 - 1).tdiv (s.pool.hi * 1000) then (m.pool + s.pool.hi * 1000 - 1).tdiv (s.pool.hi * 1000) else 1) = szLo s m := by unfold szLo; simp [c3', c4', c1']
        have hhi : 0 = szHi s l m := by unfold szHi; simp [c3', c4', c1']
        obtain ⟨k1, k2, k3, k4⟩ := key _ _ hlo hhi
        cases hA : decide (0 < (if 1 < (m.pool + s.pool.hi * 1000 - 1).tdiv (s.pool.hi * 1000) then (m.pool + s.pool.hi * 1000 - 1).tdiv (s.pool.hi * 1000) else 1))
        · simp (maxSteps := 400000) only [w5, t4, go_sem, simprocAttr]
          cases hB : goesOut s l
          · simp (maxSteps := 400000) only [w6, t3, go_sem, simprocAttr]
            cases hC : smokes s m
            · simp (maxSteps := 400000) only [k4 hA hB hC, go_sem, simprocAttr]
            · simp (maxSteps := 400000) only [k3 hA hB hC, go_sem, simprocAttr]
          · simp (maxSteps := 400000) only [k2 hA hB, go_sem, simprocAttr]
        · simp (maxSteps := 400000) only [k1 hA, go_sem, simprocAttr]
      · have c4' : s.pool.hi = 0 := by simpa using c4
        simp (maxSteps := 400000) only [c4, go_sem, simprocAttr]
        have hlo : 1 = szLo s m := by unfold szLo; simp [c3', c4', c1']
        have hhi : 0 = szHi s l m := by unfold szHi; simp [c3', c4', c1']
        obtain ⟨k1, k2, k3, k4⟩ := key _ _ hlo hhi
        simp (maxSteps := 400000) only [k1 (by decide), go_sem, simprocAttr]
    · have c3' : m.pool ≤ 0 := by simpa using c3
      simp (maxSteps := 400000) only [c3, go_sem, simprocAttr]
      have hlo : 1 = szLo s m := by unfold szLo; simp [c3', c1']
      have hhi : 0 = szHi s l m := by unfold szHi; simp [c3', c1']
      obtain ⟨k1, k2, k3, k4⟩ := key _ _ hlo hhi
      simp (maxSteps := 400000) only [k1 (by decide), go_sem, simprocAttr]
end Wk
end Abs
end Go.Proofs.YtbojkcmohgbpaaaGreatDoor
namespace Go.Proofs.YtbojkcmohgbpaaaGreatDoor
namespace Abs
namespace Wk
set_option linter.unusedSimpArgs false
set_option maxRecDepth 4000
theorem cLawSpan (a b : Int) : PCall Tryz.prog 25 [.int .i64 a, .int .i64 b] (.agg [.int .i64 a, .int .i64 b]) := by
  refine pcall_of_wp draws (fn := Tryz.f25) (n := 8) (rs := [.cell 4 25]) (by kernel_rfl) rfl rfl rfl ok25 (Nat.le_of_ble_eq_true rfl) ?_
  simp (maxSteps := 400000) only [go_sem, simprocAttr]
def shopX : Shop := ⟨[⟨⟨#[116, 104, 105, 110]⟩, 10, ⟨16, 18⟩⟩, ⟨⟨#[109, 105, 100]⟩, 14, ⟨20, 24⟩⟩, ⟨⟨#[102, 97, 116]⟩, 20, ⟨30, 36⟩⟩], [⟨⟨#[98, 101, 101, 115]⟩, ⟨100, 100⟩, ⟨150, 160⟩, ⟨1000, 1100⟩, 1⟩], ⟨20, 45⟩, ⟨500, 1000⟩⟩
def sizedX (d : Int) : Candle := ⟨0, d, 10, ⟨0, 20⟩⟩
theorem cShop : PCall Tryz.prog 17 [] shopX.pv := by
  refine PCall.lessC (a := [.slice 4 (shopX.wicks.map Wick.pv) true, .slice 8 (shopX.waxes.map Wax.pv) true, .int .i64 20, .int .i64 45, .int .i64 500, .int .i64 1000]) ?_ ?_
  · refine pcall_of_wp draws (fn := Tryz.f17) (n := 16) (rs := [.cell 0 27]) (by kernel_rfl) rfl rfl rfl ok17 (Nat.le_of_ble_eq_true rfl) ?_
    simp (maxSteps := 400000) only [go_sem, simprocAttr]
    repeat' (refine WF_pure (cLawSpan _ _) rfl ?_; simp (maxSteps := 400000) only [go_sem, simprocAttr])
    exact ⟨rfl, rfl⟩
  · exact ⟨pless2_full _ _, pless2_full _ _, pless2_refl _, pless2_refl _, pless2_refl _, pless2_refl _, trivial⟩
theorem cCandle : PCall Tryz.prog 18 [] (sizedX 300).pv := by
  refine pcall_of_wp draws (fn := Tryz.f18) (n := 3) (rs := [.cell 0 29]) (by kernel_rfl) rfl rfl rfl ok18 (Nat.le_of_ble_eq_true rfl) ?_
  simp (maxSteps := 400000) only [go_sem, simprocAttr]
  refine WF_pure (cLawSpan _ _) rfl ?_
  simp (maxSteps := 400000) only [sizedX, go_sem, simprocAttr]
theorem cSized (d : Int) : PCall Tryz.prog 22 [.int .i64 d] (sizedX d).pv := by
  refine pcall_of_wp draws (fn := Tryz.f22) (n := 8) (rs := [.cell 2 29]) (by kernel_rfl) rfl rfl rfl ok22 (Nat.le_of_ble_eq_true rfl) ?_
  simp (maxSteps := 400000) only [go_sem, simprocAttr]
  refine WF_pure cCandle rfl ?_
  simp (maxSteps := 400000) only [sizedX, go_sem, simprocAttr]
theorem cInts (a b : List Int) (ba bb : Bool) (hl : a.length < 1000000000) (hb : b.length < 1000000000) : PCall Tryz.prog 24 [.slice 1 (a.map intPV) ba, .slice 1 (b.map intPV) bb] (.bool (decide (a = b))) := by
  refine pcall_of_wp draws (fn := Tryz.f24) (n := 26) (rs := [.tmp 4]) (by kernel_rfl) rfl rfl rfl ok24 (Nat.le_of_ble_eq_true rfl) ?_
  by_cases hlen : (a.length : Int) = (b.length : Int)
  rotate_left
  · have h1 : ((a.length : Int) != (b.length : Int)) = true := by simpa using hlen
    simp (maxSteps := 400000) only [h1, go_sem, simprocAttr]
    simp
    rintro rfl
    exact hlen rfl
  have h1 : ((a.length : Int) != (b.length : Int)) = false := by simpa using hlen
  simp (maxSteps := 400000) only [h1, go_sem, simprocAttr]
  refine W_loopH [0, 1] (σ := List Int × List Int × List Int × List Int) (fun s => a = s.1 ++ s.2.1 ∧ b = s.2.2.1 ++ s.2.2.2 ∧ s.1.length = s.2.2.1.length ∧ decide (a = b) = decide (s.2.1 = s.2.2.2)) (fun s => s.2.1.length) (fun s => [(5, .p (.int .i64 s.1.length))]) ([], a, [], b) ⟨rfl, rfl, rfl, rfl⟩ ?_ ?_
  · simp (maxSteps := 400000) only [go_sem, simprocAttr]
  · rintro ⟨da, ra, db, rb⟩ ⟨e1, e2, e3, e4⟩
    dsimp only at e1 e2 e3 e4
    cases ra with
    | nil =>
      have hlt : ¬ ((da.length : Int) < (a.length : Int)) := by rw [e1]; simp
      cases rb with
      | nil => simp (maxSteps := 400000) only [hlt, decide_false, go_sem, simprocAttr]; rw [e4]; rfl
      | cons y r => rw [e1, e2] at hlen; simp at hlen; omega
    | cons x r =>
      cases rb with
      | nil => rw [e1, e2] at hlen; simp at hlen; omega
      | cons y r' =>
        obtain ⟨hx, hlt⟩ := list_at e1
        obtain ⟨hy, _⟩ := list_at e2
        rw [← e3] at hy
        have hnx : IntKind.i64.wrap ((da.length : Int) + 1) = (((da ++ [x]).length : Nat) : Int) := wrap_add (by omega) (by simp [room]; omega) (by simp)
        have hlt2 : (da.length : Int) < (b.length : Int) := by omega
        simp (maxSteps := 400000) only [hlt, hlt2, decide_true, hx, hy, intPV, go_sem, simprocAttr]
        refine WB_split (fun hb => ?_) (fun hb => ?_)
        · simp (maxSteps := 400000) only [go_sem, simprocAttr]
          rw [e4]
          have : x ≠ y := by simpa using hb
          simp [this]
        · simp (maxSteps := 400000) only [go_sem, simprocAttr]
          have : x = y := by simpa using hb
          refine WQ_headA (da ++ [x], r, db ++ [y], r') ⟨by simp [e1], by simp [e2], by simp [e3], by rw [e4, this]; simp⟩ (by simp) ?_
          simp (maxSteps := 400000) only [hnx, go_sem, simprocAttr]
def amongOf (lo hi n : Int) : Int := IntKind.i64.wrap (lo + n.tmod (IntKind.i64.wrap (IntKind.i64.wrap (hi - lo) + 1)))
theorem cAmong (lo hi n : Int) (h : IntKind.i64.wrap (IntKind.i64.wrap (hi - lo) + 1) ≠ 0) : PCall Tryz.prog 44 [.agg [.int .i64 lo, .int .i64 hi], .int .i64 n] (.int .i64 (amongOf lo hi n)) := by
  refine pcall_of_wp draws (fn := Tryz.f44) (n := 16) (rs := [.tmp 4]) (by kernel_rfl) rfl rfl rfl ok44 (Nat.le_of_ble_eq_true rfl) ?_
  simp (maxSteps := 400000) only [h, amongOf, go_sem, simprocAttr]
def waxX : Wax := ⟨⟨#[98, 101, 101, 115]⟩, ⟨100, 100⟩, ⟨150, 160⟩, ⟨1000, 1100⟩, 1⟩
def midX : Wick := ⟨⟨#[109, 105, 100]⟩, 14, ⟨20, 24⟩⟩
def fatX : Wick := ⟨⟨#[102, 97, 116]⟩, 20, ⟨30, 36⟩⟩
theorem hX {k d : Int} {w : Wick} (hw : shopX.wicks[k.toNat]? = some w) (h : askErr shopX [k] (sizedX d) = 0) : Site shopX (sizedX d) waxX ∧ SiteK shopX k w := by
  obtain ⟨w', x', h1, h2⟩ := site_of h
  have e1 : w' = w := Option.some.inj (h2.hw.symm.trans hw)
  have e2 : x' = waxX := Option.some.inj (h1.hx.symm.trans rfl)
  subst e1 e2
  exact ⟨h1, h2⟩
theorem hX0 {d : Int} (h : askErr shopX [] (sizedX d) = 0) : Site shopX (sizedX d) waxX := by
  obtain ⟨x', h1⟩ := siteC_of h
  have e2 : x' = waxX := Option.some.inj (h1.hx.symm.trans rfl)
  subst e2
  exact h1
theorem kAt : PCall Tryz.prog 9 [shopX.pv, .int .i64 1, (sizedX 300).pv, (⟨22, 100, 150, 1000, 0, 10⟩ : Truth).pv] (.tuple [(⟨22000000, 33000000, 219000000⟩ : Burn).pv, .int .i64 0]) := by
  have h := cWickAt shopX 1 (sizedX 300) ⟨22, 100, 150, 1000, 0, 10⟩ midX waxX (hX rfl)
  rwa [show atSpec shopX 1 (sizedX 300) ⟨22, 100, 150, 1000, 0, 10⟩ midX waxX = (⟨22000000, 33000000, 219000000⟩, 0) by kernel_rfl] at h
theorem kBurn : PCall Tryz.prog 7 [shopX.pv, .int .i64 1, (sizedX 300).pv] (.tuple [(⟨18000000, 27000000, 178000000⟩ : Burn).pv, (⟨26400000, 42240000, 290400000⟩ : Burn).pv, .int .i64 0]) := by
  have h := cWickBurn shopX 1 (sizedX 300) midX waxX (hX rfl)
  rwa [show burnSpec shopX 1 (sizedX 300) midX waxX = (⟨18000000, 27000000, 178000000⟩, ⟨26400000, 42240000, 290400000⟩, 0) by kernel_rfl] at h
theorem kFaults2 : PCall Tryz.prog 19 [shopX.pv, .int .i64 2, (sizedX 300).pv] (.tuple [intsPV (1 :: [4]), .int .i64 0]) := by
  have h := cWickFaults shopX 2 (sizedX 300) fatX waxX (hX rfl)
  rwa [show faultsSpec shopX 2 (sizedX 300) fatX waxX = ((1 :: [4]), 0) by kernel_rfl] at h
theorem kSuits300 : PCall Tryz.prog 20 [shopX.pv, (sizedX 300).pv] (.tuple [intsPV [1], .int .i64 0]) := by
  have h := cWickSuits shopX (sizedX 300) waxX hX0
  rwa [show suitsSpec shopX (sizedX 300) waxX = ([1], 0) by kernel_rfl] at h
theorem kThin300 : PCall Tryz.prog 21 [shopX.pv, (sizedX 300).pv] (.tuple [.int .i64 1, .int .i64 0]) := by
  have h := cWickThinnest shopX (sizedX 300) waxX hX0
  rwa [show thinSpec shopX (sizedX 300) waxX = (1, 0) by kernel_rfl] at h
theorem kThin285 : PCall Tryz.prog 21 [shopX.pv, (sizedX 285).pv] (.tuple [.int .i64 0, .int .i64 9]) := by
  have h := cWickThinnest shopX (sizedX 285) waxX hX0
  rwa [show thinSpec shopX (sizedX 285) waxX = (0, 9) by kernel_rfl] at h
theorem kSizes1 : PCall Tryz.prog 23 [shopX.pv, .int .i64 1, (sizedX 300).pv] (.tuple [(⟨291, 356⟩ : Span).pv, .int .i64 0]) := by
  have h := cWickSizes shopX 1 (sizedX 300) midX waxX (hX rfl)
  rwa [show sizesSpec shopX 1 (sizedX 300) midX waxX = (⟨291, 356⟩, 0) by kernel_rfl] at h
theorem kMinutes : PCall Tryz.prog 8 [shopX.pv, .int .i64 1, (sizedX 300).pv, .int .i64 100] (.tuple [(⟨2272, 3334⟩ : Span).pv, .int .i64 0]) := by
  have h := cWickMinutes shopX 1 (sizedX 300) 100 midX waxX (hX rfl)
  rwa [show minSpec shopX 1 (sizedX 300) 100 midX waxX = (⟨2272, 3334⟩, 0) by kernel_rfl] at h
theorem cIntsT (a : List Int) (ba bb : Bool) (hl : a.length < 1000000000) : PCall Tryz.prog 24 [.slice 1 (a.map intPV) ba, .slice 1 (a.map intPV) bb] (.bool true) := by
  have := cInts a a ba bb hl hl
  rwa [decide_eq_true rfl] at this
theorem cAwake : PCall Tryz.prog 5 [] (.bool true) := by
  refine pcall_of_wp draws (fn := Tryz.f5) (n := 137) (rs := [.tmp 0]) (by kernel_rfl) rfl rfl rfl ok5 (Nat.le_of_ble_eq_true rfl) ?_
  simp (maxSteps := 400000) only [go_sem, simprocAttr]
  repeat' first
    | (refine WF_pure cShop rfl ?_; simp (maxSteps := 400000) only [go_sem, simprocAttr])
    | (refine WF_pure cCandle rfl ?_; simp (maxSteps := 400000) only [go_sem, simprocAttr])
    | (refine WF_pure (cSized _) rfl ?_; simp (maxSteps := 400000) only [go_sem, simprocAttr])
    | (refine WF_pure kAt rfl ?_; simp (maxSteps := 400000) only [go_sem, simprocAttr])
    | (refine WF_pure kBurn rfl ?_; simp (maxSteps := 400000) only [go_sem, simprocAttr])
    | (refine WF_pure kFaults2 rfl ?_; simp (maxSteps := 400000) only [go_sem, simprocAttr])
    | (refine WF_pure kSuits300 rfl ?_; simp (maxSteps := 400000) only [go_sem, simprocAttr])
    | (refine WF_pure kThin300 rfl ?_; simp (maxSteps := 400000) only [go_sem, simprocAttr])
    | (refine WF_pure kThin285 rfl ?_; simp (maxSteps := 400000) only [go_sem, simprocAttr])
    | (refine WF_pure kSizes1 rfl ?_; simp (maxSteps := 400000) only [go_sem, simprocAttr])
    | (refine WF_pure kMinutes rfl ?_; simp (maxSteps := 400000) only [List.append_eq, go_sem, simprocAttr])
  refine WDQ_pure (cIntsT [1, 4] false true (by decide)) rfl ?_
  simp (maxSteps := 400000) only [List.append_eq, go_sem, simprocAttr]
  refine WDQ_pure (cIntsT [1] false true (by decide)) rfl ?_
  simp (maxSteps := 400000) only [List.append_eq, go_sem, simprocAttr]
  refine WDQ_pure (cLawSpan _ _) rfl ?_
  simp (maxSteps := 400000) only [List.append_eq, go_sem, simprocAttr]
  refine WDQ_pure (cLawSpan _ _) rfl ?_
  simp (maxSteps := 400000) only [List.append_eq, go_sem, simprocAttr]
end Wk
end Abs
end Go.Proofs.YtbojkcmohgbpaaaGreatDoor
