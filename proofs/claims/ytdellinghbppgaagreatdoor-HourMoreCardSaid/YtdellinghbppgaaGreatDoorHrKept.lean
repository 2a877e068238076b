/-
  CONTRACTS: the laws HourKept and HourRules. No conditions but those in the theorems' heads.
-/
import Derived.Test.YtdellinghbppgaaGreatDoorHrLaw0
namespace Go.Proofs.YtdellinghbppgaaGreatDoor
namespace Abs
set_option linter.unusedSimpArgs false
set_option linter.unusedVariables false
set_option maxRecDepth 100000

/-! what a promise and minutes say -/
theorem promise_facts {x : HrK} (hx : HrKOk x) : 0 ≤ x.promise ∧ x.promise ≤ 16666 ∧ x.promise * x.rates.hi ≤ x.k.weight.lo - x.k.rest ∧ (x.promise < 16666 → x.k.weight.lo - x.k.rest < x.rates.hi * (x.promise + 1)) := by
  have hk := hx.k
  have h1 := hk.lo; have h4 := hk.rest; have h5 := hk.less; have h6 := hx.pos; have h7 := hx.hi
  have hd := Frac.down_le (f := ⟨x.least.top, x.least.below * 60⟩) (show (0:Int) < x.rates.hi * 60 by omega)
  simp only [HrK.least] at hd
  have e : ∀ n : Int, n * (x.rates.hi * 60) = n * x.rates.hi * 60 := fun n => (Int.mul_assoc _ _ _).symm
  have key : ∀ n : Int, n ≤ Frac.down ⟨60 * (x.k.weight.lo - x.k.rest), x.rates.hi * 60⟩ ↔ n * x.rates.hi ≤ x.k.weight.lo - x.k.rest := by
    intro n
    rw [hd n, e n]
    omega
  rw [HrK.promise, HrK.least]
  dsimp only
  generalize hD : Frac.down ⟨60 * (x.k.weight.lo - x.k.rest), x.rates.hi * 60⟩ = D at key ⊢
  have k0 : 0 ≤ D := (key 0).2 (by omega)
  have k1 := (key D).1 (Int.le_refl _)
  have k2 : ¬ (D + 1) * x.rates.hi ≤ x.k.weight.lo - x.k.rest := fun h => by have := (key (D + 1)).2 h; omega
  split
  · refine ⟨k0, by omega, k1, fun _ => ?_⟩
    rw [Int.mul_comm]; omega
  · refine ⟨by omega, by omega, (key _).1 (by omega), fun h => by omega⟩
theorem minutes_facts {x : HrK} (hx : HrKOk x) : 0 ≤ x.minutes.lo ∧ x.minutes.lo ≤ x.minutes.hi ∧ x.minutes.hi ≤ 1000000 ∧ x.minutes.lo * x.rates.hi ≤ 60 * (x.k.weight.lo - x.k.rest) ∧
    (x.minutes.hi = 1000000 ∨ 60 * (x.k.weight.hi - x.k.rest) ≤ x.minutes.hi * x.rates.lo) := by
  have hk := hx.k
  have h1 := hk.lo; have h2 := hk.le; have h4 := hk.rest; have h5 := hk.less; have h6 := hx.pos; have h7 := hx.hi; have h8 := hx.lo; have h9 := hx.le
  have hd := Frac.down_le (f := x.least) (show (0:Int) < x.rates.hi by omega)
  have hl0 : 0 ≤ x.least.down := (hd 0).2 (by simp [HrK.least]; omega)
  have hl1 := (hd x.least.down).1 (Int.le_refl _)
  simp only [HrK.least] at hl1
  have hmul : ∀ {a b : Int}, a ≤ b → a * x.rates.hi ≤ b * x.rates.hi := fun h => Int.mul_le_mul_of_nonneg_right h (by omega)
  have hlo : (x.minutes.lo = x.least.down ∨ x.minutes.lo = 1000000 ∧ 1000000 ≤ x.least.down) := by
    unfold HrK.minutes; dsimp only; split <;> omega
  have hlo1 : x.minutes.lo ≤ 1000000 := by unfold HrK.minutes; dsimp only; split <;> omega
  have hlo2 : x.minutes.lo * x.rates.hi ≤ 60 * (x.k.weight.lo - x.k.rest) := by
    simp only [HrK.least] at hlo
    rcases hlo with e | ⟨e, e2⟩
    · rw [e]; exact hl1
    · rw [e]; exact Int.le_trans (hmul e2) hl1
  have hlo0 : 0 ≤ x.minutes.lo := by rcases hlo with e | ⟨e, e2⟩ <;> omega
  by_cases hp : 0 < x.rates.lo
  · have hm : x.most = ⟨60 * (x.k.weight.hi - x.k.rest), x.rates.lo⟩ := by rw [HrK.most, if_pos hp]
    have hu := Frac.up_le (f := ⟨60 * (x.k.weight.hi - x.k.rest), x.rates.lo⟩) hp
    dsimp only at hu
    have hu1 := (hu _).1 (Int.le_refl _)
    have hge : ∀ n : Int, 60 * (x.k.weight.hi - x.k.rest) ≤ n * x.rates.lo → x.minutes.lo ≤ n := by
      intro n hn
      apply Classical.byContradiction; intro hc
      have a1 : (n + 1) * x.rates.lo ≤ x.minutes.lo * x.rates.lo := Int.mul_le_mul_of_nonneg_right (by omega) (by omega)
      have a2 : x.minutes.lo * x.rates.lo ≤ x.minutes.lo * x.rates.hi := Int.mul_le_mul_of_nonneg_left h9 hlo0
      rw [Int.add_mul, Int.one_mul] at a1
      omega
    have hhi : x.minutes.hi = (if gIn (Frac.up ⟨60 * (x.k.weight.hi - x.k.rest), x.rates.lo⟩) 0 1000000 = true then Frac.up ⟨60 * (x.k.weight.hi - x.k.rest), x.rates.lo⟩ else 1000000) := by
      rw [HrK.minutes, hm]
    by_cases hg : gIn (Frac.up ⟨60 * (x.k.weight.hi - x.k.rest), x.rates.lo⟩) 0 1000000 = true
    · rw [if_pos hg] at hhi
      have hg' : 0 ≤ Frac.up ⟨60 * (x.k.weight.hi - x.k.rest), x.rates.lo⟩ ∧ Frac.up ⟨60 * (x.k.weight.hi - x.k.rest), x.rates.lo⟩ ≤ 1000000 := by simpa [gIn] using hg
      rw [hhi]
      exact ⟨hlo0, hge _ hu1, hg'.2, hlo2, .inr hu1⟩
    · rw [if_neg hg] at hhi
      rw [hhi]
      exact ⟨hlo0, hlo1, Int.le_refl _, hlo2, .inl rfl⟩
  · have hm : x.most = ⟨-1, 1⟩ := by rw [HrK.most, if_neg hp]
    have hhi : x.minutes.hi = 1000000 := by rw [HrK.minutes, hm]; rfl
    rw [hhi]
    exact ⟨hlo0, hlo1, Int.le_refl _, hlo2, .inl rfl⟩
theorem look_bad {s : HrShop} {l : List HrTest} {j : Int} (h : ¬ (hrLook s l j).2 = 0) : hrRates s l j = (⟨0, 0⟩, (hrLook s l j).2) ∧ hrMinutes s l j = (⟨0, 0⟩, (hrLook s l j).2) ∧ hrPromise s l j = (0, (hrLook s l j).2) := by
  rw [hrRates, hrMinutes, hrPromise, if_neg h, if_neg h, if_neg h]; exact ⟨rfl, rfl, rfl⟩
theorem look_good {s : HrShop} {l : List HrTest} {j : Int} (h : (hrLook s l j).2 = 0) : hrRates s l j = ((hrLook s l j).1.rates, 0) ∧ hrMinutes s l j = ((hrLook s l j).1.minutes, 0) ∧ hrPromise s l j = ((hrLook s l j).1.promise, 0) := by
  rw [hrRates, hrMinutes, hrPromise, if_pos h, if_pos h, if_pos h]; exact ⟨rfl, rfl, rfl⟩
theorem tests_bad {s : HrShop} {l : List HrTest} {j : Int} (h : ¬ hrTests s l = 0) : (hrLook s l j).2 = hrTests s l := by
  rw [hrLook, if_neg h]
def keptPV (l : List HrTest) (k w r : Int) : PV := .agg [.slice 3 (l.map HrTest.pv) false, .int .u8 k, .int .u32 w, .int .u32 r]
attribute [go_sem] keptPV
set_option maxHeartbeats 4000000 in
theorem lHourKept (s : HrShop) (l : List HrTest) (k w r : Int) (hk : 0 ≤ k ∧ k ≤ 255) (hw : 0 ≤ w ∧ w ≤ 4294967295) (hr : 0 ≤ r ∧ r ≤ 4294967295) :
    PCall Tryz.prog 8 [s.pv, keptPV l k w r] (.bool true) := by
  refine pcall_of_wp draws (fn := Tryz.f8) (n := 201) (rs := [.tmp 4]) (by kernel_rfl) rfl rfl rfl ok8 (Nat.le_of_ble_eq_true rfl) ?_
  simp (maxSteps := 400000) only [go_sem, simprocAttr]
  (first | refine WF_pure (cRefTests s l false) rfl ?_ | refine WDQ_pure (cRefTests s l false) rfl ?_)
  simp (maxSteps := 400000) only [go_sem, simprocAttr]
  cases h0 : (hrTests s l != 0)
  rotate_left
  · have h0' : ¬ hrTests s l = 0 := by simpa using h0
    simp (maxSteps := 400000) only [go_sem, simprocAttr]
    (first | refine WF_pure (cPromise s l 0) rfl ?_ | refine WDQ_pure (cPromise s l 0) rfl ?_)
    have hb := tests_bad (j := 0) h0'
    have hb2 := look_bad (j := 0) (by rw [hb]; exact h0')
    simp (maxSteps := 400000) only [hb2.2.2, hb, h0, go_sem, simprocAttr]
    (first | refine WF_pure (cAwake) rfl ?_ | refine WDQ_pure (cAwake) rfl ?_)
    simp (maxSteps := 400000) only [go_sem, simprocAttr]
  have h0' : hrTests s l = 0 := by simpa using h0
  have hT := hrTests_ok h0'
  have hks := hrCheck_kinds hT.1
  have w0 : IntKind.i64.wrap k = k := wrap_in (by omega) (by omega)
  have w1 : IntKind.i64.wrap w = w := wrap_in (by omega) (by omega)
  have w2 : IntKind.i64.wrap r = r := wrap_in (by omega) (by omega)
  have hm : k.tmod (s.kinds.length : Int) = k % (s.kinds.length : Int) := Int.tmod_eq_emod_of_nonneg hk.1
  have hne : ¬ (s.kinds.length : Int) = 0 := by omega
  have hj0 := Int.emod_nonneg k hne
  have hj1 := Int.emod_lt_of_pos k (show 0 < (s.kinds.length : Int) by omega)
  simp (maxSteps := 400000) only [w0, hm, hne, go_sem, simprocAttr]
  generalize k % (s.kinds.length : Int) = j at hj0 hj1 ⊢
  (first | refine WF_pure (cRates s l j) rfl ?_ | refine WDQ_pure (cRates s l j) rfl ?_)
  simp (maxSteps := 400000) only [go_sem, simprocAttr]
  (first | refine WF_pure (cMinutes s l j) rfl ?_ | refine WDQ_pure (cMinutes s l j) rfl ?_)
  simp (maxSteps := 400000) only [go_sem, simprocAttr]
  (first | refine WF_pure (cPromise s l j) rfl ?_ | refine WDQ_pure (cPromise s l j) rfl ?_)
  simp (maxSteps := 400000) only [go_sem, simprocAttr]
  by_cases hlk : (hrLook s l j).2 = 0
  rotate_left
  · obtain ⟨e1, e2, e3⟩ := look_bad hlk
    have d1 : ((hrLook s l j).2 != 0) = true := by simpa using hlk
    simp (maxSteps := 400000) only [e1, e2, e3, d1, beq_self_eq_true, go_sem, simprocAttr]
    (first | refine WF_pure (cAwake) rfl ?_ | refine WDQ_pure (cAwake) rfl ?_)
    simp (maxSteps := 400000) only [go_sem, simprocAttr]
  obtain ⟨e1, e2, e3⟩ := look_good hlk
  obtain ⟨hx, _, _, hki, _, _⟩ := hrLook_ok hlk
  rw [e1, e2, e3]
  generalize (hrLook s l j).1 = x at hx hki ⊢
  have hk := hx.k
  have b1 := hk.lo; have b2 := hk.le; have b3 := hk.hi; have b4 := hk.rest; have b5 := hk.less; have b6 := hx.lo; have b7 := hx.le; have b8 := hx.pos; have b9 := hx.hi
  have d1 : decide (x.rates.lo < 0) = false := by simp; omega
  have d2 : decide (x.rates.hi < x.rates.lo) = false := by simp; omega
  have d3 : decide (x.rates.hi < 1) = false := by simp; omega
  simp (maxSteps := 400000) only [d1, d2, d3, hj0, hj1, hki, go_sem, simprocAttr]
  have hA := amongS_in (s := x.k.weight) b2 w
  have hB := amongS_in (s := x.rates) b7 r
  simp (maxSteps := 400000) only [w1, w2, go_sem, simprocAttr]
  refine WDQ_pure (cAmong09 x.k.weight w ⟨by omega, b2, by omega⟩ hw.1) rfl ?_
  generalize amongS x.k.weight w = wax0 at hA ⊢
  have w3 : IntKind.i64.wrap (wax0 - x.k.rest) = wax0 - x.k.rest := wrap_in (by omega) (by omega)
  simp (maxSteps := 400000) only [w3, w2, go_sem, simprocAttr]
  refine WDQ_pure (cAmong09 x.rates r ⟨by omega, b7, by omega⟩ hr.1) rfl ?_
  generalize amongS x.rates r = rate at hB ⊢
  have w4 : IntKind.i64.wrap (x.k.weight.lo - x.k.rest) = x.k.weight.lo - x.k.rest := wrap_in (by omega) (by omega)
  obtain ⟨p1, p2, p3, p4⟩ := promise_facts hx
  obtain ⟨m1, m2, m3, m4, m5⟩ := minutes_facts hx
  generalize x.promise = n at p1 p2 p3 p4 ⊢
  have q1 : rate * n ≤ x.rates.hi * n := Int.mul_le_mul_of_nonneg_right hB.2 p1
  have q2 : 0 ≤ rate * n := Int.mul_nonneg (by omega) p1
  rw [Int.mul_comm n] at p3
  have q3 : 0 ≤ x.rates.hi * (n + 1) := Int.mul_nonneg (by omega) (by omega)
  have q4 : x.rates.hi * (n + 1) ≤ 901800000 * 16667 := Int.mul_le_mul b9 (by omega) (by omega) (by omega)
  have w5 : IntKind.i64.wrap (rate * n) = rate * n := wrap_in (by omega) (by omega)
  have w6 : IntKind.i64.wrap (n + 1) = n + 1 := wrap_in (by omega) (by omega)
  have w7 : IntKind.i64.wrap (x.rates.hi * (n + 1)) = x.rates.hi * (n + 1) := wrap_in (by omega) (by omega)
  have t1 : x.minutes.lo * rate ≤ x.minutes.lo * x.rates.hi := Int.mul_le_mul_of_nonneg_left hB.2 m1
  have t2 : 0 ≤ x.minutes.lo * rate := Int.mul_nonneg m1 (by omega)
  have t3 : x.minutes.hi * x.rates.lo ≤ x.minutes.hi * rate := Int.mul_le_mul_of_nonneg_left hB.1 (by omega)
  have t4 : 0 ≤ x.minutes.hi * rate := Int.mul_nonneg (by omega) (by omega)
  have t5 : x.minutes.hi * rate ≤ 1000000 * 901800000 := Int.mul_le_mul m3 (by omega) (by omega) (by omega)
  have w8 : IntKind.i64.wrap (x.minutes.lo * rate) = x.minutes.lo * rate := wrap_in (by omega) (by omega)
  have w9 : IntKind.i64.wrap (x.minutes.hi * rate) = x.minutes.hi * rate := wrap_in (by omega) (by omega)
  have w10 : IntKind.i64.wrap (60 * (wax0 - x.k.rest)) = 60 * (wax0 - x.k.rest) := wrap_in (by omega) (by omega)
  have c1 : decide (wax0 - x.k.rest < rate * n) = false := by simp; omega
  have c2 : decide (n < 0) = false := by simp; omega
  have c3 : decide (16666 < n) = false := by simp; omega
  have c6 : decide (x.minutes.lo < 0) = false := by simp; omega
  have c7 : decide (x.minutes.hi < x.minutes.lo) = false := by simp; omega
  have c8 : decide (1000000 < x.minutes.hi) = false := by simp; omega
  have c9 : decide (x.minutes.lo * rate ≤ 60 * (wax0 - x.k.rest)) = true := by simp; omega
  cases c4 : decide (n < 16666)
  · cases c10 : (x.minutes.hi == 1000000)
    · have c11 : decide (60 * (wax0 - x.k.rest) ≤ x.minutes.hi * rate) = true := by
        have : ¬ x.minutes.hi = 1000000 := by simpa using c10
        have := m5.resolve_left this
        simp; omega
      simp (maxSteps := 400000) only [w4, w5, w6, w7, w8, w9, w10, c1, c2, c3, c4, c6, c7, c8, c9, c10, c11, go_sem, simprocAttr]
      (first | refine WF_pure (cAwake) rfl ?_ | refine WDQ_pure (cAwake) rfl ?_)
      simp (maxSteps := 400000) only [go_sem, simprocAttr]
    · simp (maxSteps := 400000) only [w4, w5, w6, w7, w8, w9, w10, c1, c2, c3, c4, c6, c7, c8, c9, c10, go_sem, simprocAttr]
      (first | refine WF_pure (cAwake) rfl ?_ | refine WDQ_pure (cAwake) rfl ?_)
      simp (maxSteps := 400000) only [go_sem, simprocAttr]
  · have c5 : decide (x.rates.hi * (n + 1) ≤ x.k.weight.lo - x.k.rest) = false := by
      have := p4 (by simpa using c4)
      simp; omega
    cases c10 : (x.minutes.hi == 1000000)
    · have c11 : decide (60 * (wax0 - x.k.rest) ≤ x.minutes.hi * rate) = true := by
        have : ¬ x.minutes.hi = 1000000 := by simpa using c10
        have := m5.resolve_left this
        simp; omega
      simp (maxSteps := 400000) only [w4, w5, w6, w7, w8, w9, w10, c1, c2, c3, c4, c5, c6, c7, c8, c9, c10, c11, go_sem, simprocAttr]
      (first | refine WF_pure (cAwake) rfl ?_ | refine WDQ_pure (cAwake) rfl ?_)
      simp (maxSteps := 400000) only [go_sem, simprocAttr]
    · simp (maxSteps := 400000) only [w4, w5, w6, w7, w8, w9, w10, c1, c2, c3, c4, c5, c6, c7, c8, c9, c10, go_sem, simprocAttr]
      (first | refine WF_pure (cAwake) rfl ?_ | refine WDQ_pure (cAwake) rfl ?_)
      simp (maxSteps := 400000) only [go_sem, simprocAttr]
end Abs
end Go.Proofs.YtdellinghbppgaaGreatDoor
