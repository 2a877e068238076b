/-
  CONTRACTS: the law HourRules. No conditions but those in the theorems' heads.
-/
import Derived.Test.YtdellinghbppgaaGreatDoorHrKept
namespace Go.Proofs.YtdellinghbppgaaGreatDoor
namespace Abs
set_option linter.unusedSimpArgs false
set_option linter.unusedVariables false
set_option maxRecDepth 100000

theorem fits_eq {x : HrK} {z : HrRule} (hx : HrKOk x) (hz : HrRuleOk z) : x.fits z = if decide (60 * (x.k.weight.lo - x.k.rest) < z.minutes.lo * x.rates.hi) = true then 1 else if ((x.rates.lo == 0) || decide (z.minutes.hi * x.rates.lo < 60 * (x.k.weight.hi - x.k.rest))) = true then 2 else if (decide (x.k.weight.lo < z.weight.lo) || decide (z.weight.hi < x.k.weight.hi)) = true then 3 else 0 := by
  have hk := hx.k
  have h1 := hk.lo; have h2 := hk.le; have h3 := hk.hi; have h4 := hk.rest; have h5 := hk.less; have h6 := hx.lo; have h7 := hx.le
  have z1 := hz.wle
  have e1 : x.short z = decide (60 * (x.k.weight.lo - x.k.rest) < z.minutes.lo * x.rates.hi) := by simp [HrK.short, Frac.lt, HrK.least]
  have e2 : x.long z = ((x.rates.lo == 0) || decide (z.minutes.hi * x.rates.lo < 60 * (x.k.weight.hi - x.k.rest))) := by
    by_cases hp : 0 < x.rates.lo
    · have : (x.rates.lo == 0) = false := by simp; omega
      have h : ¬ 60 * (x.k.weight.hi - x.k.rest) < 0 := by omega
      simp [HrK.long, HrK.most, if_pos hp, Frac.lt, this, h]
    · have : (x.rates.lo == 0) = true := by simp; omega
      simp [HrK.long, HrK.most, if_neg hp, this]
  have e3 : x.size z = (decide (x.k.weight.lo < z.weight.lo) || decide (z.weight.hi < x.k.weight.hi)) := by
    apply Bool.eq_iff_iff.2
    simp [HrK.size, gIn]
    omega
  rw [HrK.fits, e1, e2, e3]
set_option maxHeartbeats 16000000 in
theorem lHourRules (s : HrShop) (l : List HrTest) (k w r y : Int) (hk : 0 ≤ k ∧ k ≤ 255) (hw : 0 ≤ w ∧ w ≤ 4294967295) (hr : 0 ≤ r ∧ r ≤ 4294967295) (hy : 0 ≤ y ∧ y ≤ 255) :
    PCall Tryz.prog 9 [s.pv, keptPV l k w r, .int .u8 y] (.bool true) := by
  refine pcall_of_wp draws (fn := Tryz.f9) (n := 250) (rs := [.tmp 6]) (by kernel_rfl) rfl rfl rfl ok9 (Nat.le_of_ble_eq_true rfl) ?_
  simp (maxSteps := 400000) only [go_sem, simprocAttr]
  (first | refine WF_pure (cRefTests s l false) rfl ?_ | refine WDQ_pure (cRefTests s l false) rfl ?_)
  simp (maxSteps := 400000) only [go_sem, simprocAttr]
  cases h0 : (hrTests s l != 0)
  rotate_left
  · simp (maxSteps := 400000) only [go_sem, simprocAttr]
    (first | refine WF_pure (cAwake) rfl ?_ | refine WDQ_pure (cAwake) rfl ?_)
    simp (maxSteps := 400000) only [go_sem, simprocAttr]
  have h0' : hrTests s l = 0 := by simpa using h0
  have hT := hrTests_ok h0'
  have hks := hrCheck_kinds hT.1
  simp (maxSteps := 400000) only [go_sem, simprocAttr]
  cases hr0 : ((s.rules.length : Int) == 0)
  rotate_left
  · simp (maxSteps := 400000) only [go_sem, simprocAttr]
    (first | refine WF_pure (cAwake) rfl ?_ | refine WDQ_pure (cAwake) rfl ?_)
    simp (maxSteps := 400000) only [go_sem, simprocAttr]
  have w0 : IntKind.i64.wrap k = k := wrap_in (by omega) (by omega)
  have w00 : IntKind.i64.wrap y = y := wrap_in (by omega) (by omega)
  have w1 : IntKind.i64.wrap w = w := wrap_in (by omega) (by omega)
  have w2 : IntKind.i64.wrap r = r := wrap_in (by omega) (by omega)
  have hm : k.tmod (s.kinds.length : Int) = k % (s.kinds.length : Int) := Int.tmod_eq_emod_of_nonneg hk.1
  have hne : ¬ (s.kinds.length : Int) = 0 := by omega
  have hj0 := Int.emod_nonneg k hne
  have hj1 := Int.emod_lt_of_pos k (show 0 < (s.kinds.length : Int) by omega)
  have hm2 : y.tmod (s.rules.length : Int) = y % (s.rules.length : Int) := Int.tmod_eq_emod_of_nonneg hy.1
  have hne2 : ¬ (s.rules.length : Int) = 0 := by simpa using hr0
  have hy0 := Int.emod_nonneg y hne2
  have hy1 := Int.emod_lt_of_pos y (show 0 < (s.rules.length : Int) by omega)
  simp (maxSteps := 400000) only [H9, W_drawH, w0, hm, hne, w00, hm2, hne2, go_sem, simprocAttr]
  generalize k % (s.kinds.length : Int) = j at hj0 hj1 ⊢
  generalize y % (s.rules.length : Int) = v at hy0 hy1 ⊢
  (first | refine WF_pure (cRates s l j) rfl ?_ | refine WDQ_pure (cRates s l j) rfl ?_)
  simp (maxSteps := 400000) only [H9, W_drawH, go_sem, simprocAttr]
  (first | refine WF_pure (cFitsHr s l j v) rfl ?_ | refine WDQ_pure (cFitsHr s l j v) rfl ?_)
  simp (maxSteps := 400000) only [H9, W_drawH, go_sem, simprocAttr]
  by_cases hlk : (hrLook s l j).2 = 0
  rotate_left
  · obtain ⟨e1, e2, e3⟩ := look_bad hlk
    have e4 : hrFits s l j v = (0, (hrLook s l j).2) := by rw [hrFits, if_neg hlk]
    have d1 : ((hrLook s l j).2 != 0) = true := by simpa using hlk
    simp (maxSteps := 400000) only [H9, W_drawH, e1, e4, d1, beq_self_eq_true, go_sem, simprocAttr]
    (first | refine WF_pure (cAwake) rfl ?_ | refine WDQ_pure (cAwake) rfl ?_)
    simp (maxSteps := 400000) only [H9, W_drawH, go_sem, simprocAttr]
  obtain ⟨e1, e2, e3⟩ := look_good hlk
  obtain ⟨hx, _, _, hki, _, _⟩ := hrLook_ok hlk
  obtain ⟨z, hz⟩ : ∃ z, s.rules[v.toNat]? = some z := ⟨_, List.getElem?_eq_getElem (by omega)⟩
  have hg : gIn v 0 ((s.rules.length : Int) - 1) = true := by simp [gIn]; omega
  have e4 : hrFits s l j v = ((hrLook s l j).1.fits z, 0) := by rw [hrFits, if_pos hlk, if_pos hg, hz]
  rw [e1, e4]
  generalize (hrLook s l j).1 = x at hx hki ⊢
  have hzo := ruleOk_of hT.1 (List.mem_of_getElem? hz)
  have hf := fits_eq hx hzo
  have hk := hx.k
  have b1 := hk.lo; have b2 := hk.le; have b3 := hk.hi; have b4 := hk.rest; have b5 := hk.less; have b6 := hx.lo; have b7 := hx.le; have b8 := hx.pos; have b9 := hx.hi
  have z1 := hzo.mlo; have z2 := hzo.mle; have z3 := hzo.mhi; have z4 := hzo.wlo; have z5 := hzo.wle; have z6 := hzo.whi
  have d1 : decide (x.rates.lo < 0) = false := by simp; omega
  have d2 : decide (x.rates.hi < x.rates.lo) = false := by simp; omega
  generalize x.fits z = fz at hf ⊢
  simp (maxSteps := 400000) only [H9, W_drawH, d1, d2, hj0, hj1, hki, hy0, hy1, hz, go_sem, simprocAttr]
  have hA := amongS_in (s := x.k.weight) b2 w
  have hB := amongS_in (s := x.rates) b7 r
  simp (maxSteps := 400000) only [H9, W_drawH, w1, w2, go_sem, simprocAttr]
  refine WDQ_pure (cAmong09 x.k.weight w ⟨by omega, b2, by omega⟩ hw.1) rfl ?_
  generalize amongS x.k.weight w = wt at hA ⊢
  simp (maxSteps := 400000) only [H9, W_drawH, w2, go_sem, simprocAttr]
  refine WDQ_pure (cAmong09 x.rates r ⟨by omega, b7, by omega⟩ hr.1) rfl ?_
  generalize amongS x.rates r = rate at hB ⊢
  have t1 : z.minutes.lo * rate ≤ z.minutes.lo * x.rates.hi := Int.mul_le_mul_of_nonneg_left hB.2 z1
  have t2 : 0 ≤ z.minutes.lo * rate := Int.mul_nonneg z1 (by omega)
  have t3 : z.minutes.lo * x.rates.hi ≤ 1000000 * 901800000 := Int.mul_le_mul (by omega) b9 (by omega) (by omega)
  have t4 : z.minutes.hi * x.rates.lo ≤ z.minutes.hi * rate := Int.mul_le_mul_of_nonneg_left hB.1 (by omega)
  have t5 : 0 ≤ z.minutes.hi * x.rates.lo := Int.mul_nonneg (by omega) (by omega)
  have t6 : z.minutes.hi * rate ≤ 1000000 * 901800000 := Int.mul_le_mul z3 (by omega) (by omega) (by omega)
  have w3 : IntKind.i64.wrap (wt - x.k.rest) = wt - x.k.rest := wrap_in (by omega) (by omega)
  have w4 : IntKind.i64.wrap (60 * (wt - x.k.rest)) = 60 * (wt - x.k.rest) := wrap_in (by omega) (by omega)
  have w5 : IntKind.i64.wrap (z.minutes.lo * rate) = z.minutes.lo * rate := wrap_in (by omega) (by omega)
  have w6 : IntKind.i64.wrap (z.minutes.hi * rate) = z.minutes.hi * rate := wrap_in (by omega) (by omega)
  have w7 : IntKind.i64.wrap (x.k.weight.lo - x.k.rest) = x.k.weight.lo - x.k.rest := wrap_in (by omega) (by omega)
  have w8 : IntKind.i64.wrap (60 * (x.k.weight.lo - x.k.rest)) = 60 * (x.k.weight.lo - x.k.rest) := wrap_in (by omega) (by omega)
  have w9 : IntKind.i64.wrap (z.minutes.lo * x.rates.hi) = z.minutes.lo * x.rates.hi := wrap_in (by omega) (by omega)
  have w10 : IntKind.i64.wrap (x.k.weight.hi - x.k.rest) = x.k.weight.hi - x.k.rest := wrap_in (by omega) (by omega)
  have w11 : IntKind.i64.wrap (60 * (x.k.weight.hi - x.k.rest)) = 60 * (x.k.weight.hi - x.k.rest) := wrap_in (by omega) (by omega)
  have w12 : IntKind.i64.wrap (z.minutes.hi * x.rates.lo) = z.minutes.hi * x.rates.lo := wrap_in (by omega) (by omega)
  simp (maxSteps := 400000) only [H9, W_drawH, go_sem, simprocAttr]
  cases hS : decide (60 * (x.k.weight.lo - x.k.rest) < z.minutes.lo * x.rates.hi)
  · cases hL0 : (x.rates.lo == 0)
    · cases hL1 : decide (z.minutes.hi * x.rates.lo < 60 * (x.k.weight.hi - x.k.rest))
      · cases hZ0 : decide (x.k.weight.lo < z.weight.lo)
        · cases hZ1 : decide (z.weight.hi < x.k.weight.hi)
          · have a1 : decide (z.minutes.lo * rate ≤ 60 * (wt - x.k.rest)) = true := by simp at hS ⊢; omega
            have a2 : decide (0 < rate) = true := by simp at hL0 ⊢; omega
            have a3 : decide (60 * (wt - x.k.rest) ≤ z.minutes.hi * rate) = true := by simp at hL1 ⊢; omega
            have a4 : decide (z.weight.lo ≤ wt) = true := by simp at hZ0 ⊢; omega
            have a5 : decide (wt ≤ z.weight.hi) = true := by simp at hZ1 ⊢; omega
            simp only [hS, hL0, hL1, hZ0, hZ1, Bool.or_false, Bool.false_or, Bool.or_true, Bool.true_or, if_true, if_false, Bool.false_eq_true] at hf
            simp (maxSteps := 400000) only [H9, W_drawH, w3, w4, w5, w6, w7, w8, w9, w10, w11, w12, hf, hS, hL0, hL1, hZ0, hZ1, a1, a2, a3, a4, a5, go_sem, simprocAttr]
            (first | refine WF_pure (cAwake) rfl ?_ | refine WDQ_pure (cAwake) rfl ?_)
            simp (maxSteps := 400000) only [H9, W_drawH, go_sem, simprocAttr]
          · simp only [hS, hL0, hL1, hZ0, hZ1, Bool.or_false, Bool.false_or, Bool.or_true, Bool.true_or, if_true, if_false, Bool.false_eq_true] at hf
            cases a1 : decide (z.minutes.lo * rate ≤ 60 * (wt - x.k.rest))
            · simp (maxSteps := 400000) only [H9, W_drawH, w3, w4, w5, w6, w7, w8, w9, w10, w11, w12, hf, hS, hL0, hL1, hZ0, hZ1, a1, go_sem, simprocAttr]
              (first | refine WF_pure (cAwake) rfl ?_ | refine WDQ_pure (cAwake) rfl ?_)
              simp (maxSteps := 400000) only [H9, W_drawH, go_sem, simprocAttr]
            · cases a2 : decide (0 < rate)
              · simp (maxSteps := 400000) only [H9, W_drawH, w3, w4, w5, w6, w7, w8, w9, w10, w11, w12, hf, hS, hL0, hL1, hZ0, hZ1, a1, a2, go_sem, simprocAttr]
                (first | refine WF_pure (cAwake) rfl ?_ | refine WDQ_pure (cAwake) rfl ?_)
                simp (maxSteps := 400000) only [H9, W_drawH, go_sem, simprocAttr]
              · cases a3 : decide (60 * (wt - x.k.rest) ≤ z.minutes.hi * rate)
                · simp (maxSteps := 400000) only [H9, W_drawH, w3, w4, w5, w6, w7, w8, w9, w10, w11, w12, hf, hS, hL0, hL1, hZ0, hZ1, a1, a2, a3, go_sem, simprocAttr]
                  (first | refine WF_pure (cAwake) rfl ?_ | refine WDQ_pure (cAwake) rfl ?_)
                  simp (maxSteps := 400000) only [H9, W_drawH, go_sem, simprocAttr]
                · cases a4 : decide (z.weight.lo ≤ wt)
                  · simp (maxSteps := 400000) only [H9, W_drawH, w3, w4, w5, w6, w7, w8, w9, w10, w11, w12, hf, hS, hL0, hL1, hZ0, hZ1, a1, a2, a3, a4, go_sem, simprocAttr]
                    (first | refine WF_pure (cAwake) rfl ?_ | refine WDQ_pure (cAwake) rfl ?_)
                    simp (maxSteps := 400000) only [H9, W_drawH, go_sem, simprocAttr]
                  · cases a5 : decide (wt ≤ z.weight.hi)
                    · simp (maxSteps := 400000) only [H9, W_drawH, w3, w4, w5, w6, w7, w8, w9, w10, w11, w12, hf, hS, hL0, hL1, hZ0, hZ1, a1, a2, a3, a4, a5, go_sem, simprocAttr]
                      (first | refine WF_pure (cAwake) rfl ?_ | refine WDQ_pure (cAwake) rfl ?_)
                      simp (maxSteps := 400000) only [H9, W_drawH, go_sem, simprocAttr]
                    · simp (maxSteps := 400000) only [H9, W_drawH, w3, w4, w5, w6, w7, w8, w9, w10, w11, w12, hf, hS, hL0, hL1, hZ0, hZ1, a1, a2, a3, a4, a5, go_sem, simprocAttr]
                      (first | refine WF_pure (cAwake) rfl ?_ | refine WDQ_pure (cAwake) rfl ?_)
                      simp (maxSteps := 400000) only [H9, W_drawH, go_sem, simprocAttr]
        · simp only [hS, hL0, hL1, hZ0, Bool.or_false, Bool.false_or, Bool.or_true, Bool.true_or, if_true, if_false, Bool.false_eq_true] at hf
          cases a1 : decide (z.minutes.lo * rate ≤ 60 * (wt - x.k.rest))
          · simp (maxSteps := 400000) only [H9, W_drawH, w3, w4, w5, w6, w7, w8, w9, w10, w11, w12, hf, hS, hL0, hL1, hZ0, a1, go_sem, simprocAttr]
            (first | refine WF_pure (cAwake) rfl ?_ | refine WDQ_pure (cAwake) rfl ?_)
            simp (maxSteps := 400000) only [H9, W_drawH, go_sem, simprocAttr]
          · cases a2 : decide (0 < rate)
            · simp (maxSteps := 400000) only [H9, W_drawH, w3, w4, w5, w6, w7, w8, w9, w10, w11, w12, hf, hS, hL0, hL1, hZ0, a1, a2, go_sem, simprocAttr]
              (first | refine WF_pure (cAwake) rfl ?_ | refine WDQ_pure (cAwake) rfl ?_)
              simp (maxSteps := 400000) only [H9, W_drawH, go_sem, simprocAttr]
            · cases a3 : decide (60 * (wt - x.k.rest) ≤ z.minutes.hi * rate)
              · simp (maxSteps := 400000) only [H9, W_drawH, w3, w4, w5, w6, w7, w8, w9, w10, w11, w12, hf, hS, hL0, hL1, hZ0, a1, a2, a3, go_sem, simprocAttr]
                (first | refine WF_pure (cAwake) rfl ?_ | refine WDQ_pure (cAwake) rfl ?_)
                simp (maxSteps := 400000) only [H9, W_drawH, go_sem, simprocAttr]
              · cases a4 : decide (z.weight.lo ≤ wt)
                · simp (maxSteps := 400000) only [H9, W_drawH, w3, w4, w5, w6, w7, w8, w9, w10, w11, w12, hf, hS, hL0, hL1, hZ0, a1, a2, a3, a4, go_sem, simprocAttr]
                  (first | refine WF_pure (cAwake) rfl ?_ | refine WDQ_pure (cAwake) rfl ?_)
                  simp (maxSteps := 400000) only [H9, W_drawH, go_sem, simprocAttr]
                · cases a5 : decide (wt ≤ z.weight.hi)
                  · simp (maxSteps := 400000) only [H9, W_drawH, w3, w4, w5, w6, w7, w8, w9, w10, w11, w12, hf, hS, hL0, hL1, hZ0, a1, a2, a3, a4, a5, go_sem, simprocAttr]
                    (first | refine WF_pure (cAwake) rfl ?_ | refine WDQ_pure (cAwake) rfl ?_)
                    simp (maxSteps := 400000) only [H9, W_drawH, go_sem, simprocAttr]
                  · simp (maxSteps := 400000) only [H9, W_drawH, w3, w4, w5, w6, w7, w8, w9, w10, w11, w12, hf, hS, hL0, hL1, hZ0, a1, a2, a3, a4, a5, go_sem, simprocAttr]
                    (first | refine WF_pure (cAwake) rfl ?_ | refine WDQ_pure (cAwake) rfl ?_)
                    simp (maxSteps := 400000) only [H9, W_drawH, go_sem, simprocAttr]
      · cases hZ0 : decide (x.k.weight.lo < z.weight.lo)
        · cases hZ1 : decide (z.weight.hi < x.k.weight.hi)
          · simp only [hS, hL0, hL1, hZ0, hZ1, Bool.or_false, Bool.false_or, Bool.or_true, Bool.true_or, if_true, if_false, Bool.false_eq_true] at hf
            cases a1 : decide (z.minutes.lo * rate ≤ 60 * (wt - x.k.rest))
            · simp (maxSteps := 400000) only [H9, W_drawH, w3, w4, w5, w6, w7, w8, w9, w10, w11, w12, hf, hS, hL0, hL1, hZ0, hZ1, a1, go_sem, simprocAttr]
              (first | refine WF_pure (cAwake) rfl ?_ | refine WDQ_pure (cAwake) rfl ?_)
              simp (maxSteps := 400000) only [H9, W_drawH, go_sem, simprocAttr]
            · cases a2 : decide (0 < rate)
              · simp (maxSteps := 400000) only [H9, W_drawH, w3, w4, w5, w6, w7, w8, w9, w10, w11, w12, hf, hS, hL0, hL1, hZ0, hZ1, a1, a2, go_sem, simprocAttr]
                (first | refine WF_pure (cAwake) rfl ?_ | refine WDQ_pure (cAwake) rfl ?_)
                simp (maxSteps := 400000) only [H9, W_drawH, go_sem, simprocAttr]
              · cases a3 : decide (60 * (wt - x.k.rest) ≤ z.minutes.hi * rate)
                · simp (maxSteps := 400000) only [H9, W_drawH, w3, w4, w5, w6, w7, w8, w9, w10, w11, w12, hf, hS, hL0, hL1, hZ0, hZ1, a1, a2, a3, go_sem, simprocAttr]
                  (first | refine WF_pure (cAwake) rfl ?_ | refine WDQ_pure (cAwake) rfl ?_)
                  simp (maxSteps := 400000) only [H9, W_drawH, go_sem, simprocAttr]
                · cases a4 : decide (z.weight.lo ≤ wt)
                  · simp (maxSteps := 400000) only [H9, W_drawH, w3, w4, w5, w6, w7, w8, w9, w10, w11, w12, hf, hS, hL0, hL1, hZ0, hZ1, a1, a2, a3, a4, go_sem, simprocAttr]
                    (first | refine WF_pure (cAwake) rfl ?_ | refine WDQ_pure (cAwake) rfl ?_)
                    simp (maxSteps := 400000) only [H9, W_drawH, go_sem, simprocAttr]
                  · cases a5 : decide (wt ≤ z.weight.hi)
                    · simp (maxSteps := 400000) only [H9, W_drawH, w3, w4, w5, w6, w7, w8, w9, w10, w11, w12, hf, hS, hL0, hL1, hZ0, hZ1, a1, a2, a3, a4, a5, go_sem, simprocAttr]
                      (first | refine WF_pure (cAwake) rfl ?_ | refine WDQ_pure (cAwake) rfl ?_)
                      simp (maxSteps := 400000) only [H9, W_drawH, go_sem, simprocAttr]
                    · simp (maxSteps := 400000) only [H9, W_drawH, w3, w4, w5, w6, w7, w8, w9, w10, w11, w12, hf, hS, hL0, hL1, hZ0, hZ1, a1, a2, a3, a4, a5, go_sem, simprocAttr]
                      (first | refine WF_pure (cAwake) rfl ?_ | refine WDQ_pure (cAwake) rfl ?_)
                      simp (maxSteps := 400000) only [H9, W_drawH, go_sem, simprocAttr]
          · simp only [hS, hL0, hL1, hZ0, hZ1, Bool.or_false, Bool.false_or, Bool.or_true, Bool.true_or, if_true, if_false, Bool.false_eq_true] at hf
            cases a1 : decide (z.minutes.lo * rate ≤ 60 * (wt - x.k.rest))
            · simp (maxSteps := 400000) only [H9, W_drawH, w3, w4, w5, w6, w7, w8, w9, w10, w11, w12, hf, hS, hL0, hL1, hZ0, hZ1, a1, go_sem, simprocAttr]
              (first | refine WF_pure (cAwake) rfl ?_ | refine WDQ_pure (cAwake) rfl ?_)
              simp (maxSteps := 400000) only [H9, W_drawH, go_sem, simprocAttr]
            · cases a2 : decide (0 < rate)
              · simp (maxSteps := 400000) only [H9, W_drawH, w3, w4, w5, w6, w7, w8, w9, w10, w11, w12, hf, hS, hL0, hL1, hZ0, hZ1, a1, a2, go_sem, simprocAttr]
                (first | refine WF_pure (cAwake) rfl ?_ | refine WDQ_pure (cAwake) rfl ?_)
                simp (maxSteps := 400000) only [H9, W_drawH, go_sem, simprocAttr]
              · cases a3 : decide (60 * (wt - x.k.rest) ≤ z.minutes.hi * rate)
                · simp (maxSteps := 400000) only [H9, W_drawH, w3, w4, w5, w6, w7, w8, w9, w10, w11, w12, hf, hS, hL0, hL1, hZ0, hZ1, a1, a2, a3, go_sem, simprocAttr]
                  (first | refine WF_pure (cAwake) rfl ?_ | refine WDQ_pure (cAwake) rfl ?_)
                  simp (maxSteps := 400000) only [H9, W_drawH, go_sem, simprocAttr]
                · cases a4 : decide (z.weight.lo ≤ wt)
                  · simp (maxSteps := 400000) only [H9, W_drawH, w3, w4, w5, w6, w7, w8, w9, w10, w11, w12, hf, hS, hL0, hL1, hZ0, hZ1, a1, a2, a3, a4, go_sem, simprocAttr]
                    (first | refine WF_pure (cAwake) rfl ?_ | refine WDQ_pure (cAwake) rfl ?_)
                    simp (maxSteps := 400000) only [H9, W_drawH, go_sem, simprocAttr]
                  · cases a5 : decide (wt ≤ z.weight.hi)
                    · simp (maxSteps := 400000) only [H9, W_drawH, w3, w4, w5, w6, w7, w8, w9, w10, w11, w12, hf, hS, hL0, hL1, hZ0, hZ1, a1, a2, a3, a4, a5, go_sem, simprocAttr]
                      (first | refine WF_pure (cAwake) rfl ?_ | refine WDQ_pure (cAwake) rfl ?_)
                      simp (maxSteps := 400000) only [H9, W_drawH, go_sem, simprocAttr]
                    · simp (maxSteps := 400000) only [H9, W_drawH, w3, w4, w5, w6, w7, w8, w9, w10, w11, w12, hf, hS, hL0, hL1, hZ0, hZ1, a1, a2, a3, a4, a5, go_sem, simprocAttr]
                      (first | refine WF_pure (cAwake) rfl ?_ | refine WDQ_pure (cAwake) rfl ?_)
                      simp (maxSteps := 400000) only [H9, W_drawH, go_sem, simprocAttr]
        · simp only [hS, hL0, hL1, hZ0, Bool.or_false, Bool.false_or, Bool.or_true, Bool.true_or, if_true, if_false, Bool.false_eq_true] at hf
          cases a1 : decide (z.minutes.lo * rate ≤ 60 * (wt - x.k.rest))
          · simp (maxSteps := 400000) only [H9, W_drawH, w3, w4, w5, w6, w7, w8, w9, w10, w11, w12, hf, hS, hL0, hL1, hZ0, a1, go_sem, simprocAttr]
            (first | refine WF_pure (cAwake) rfl ?_ | refine WDQ_pure (cAwake) rfl ?_)
            simp (maxSteps := 400000) only [H9, W_drawH, go_sem, simprocAttr]
          · cases a2 : decide (0 < rate)
            · simp (maxSteps := 400000) only [H9, W_drawH, w3, w4, w5, w6, w7, w8, w9, w10, w11, w12, hf, hS, hL0, hL1, hZ0, a1, a2, go_sem, simprocAttr]
              (first | refine WF_pure (cAwake) rfl ?_ | refine WDQ_pure (cAwake) rfl ?_)
              simp (maxSteps := 400000) only [H9, W_drawH, go_sem, simprocAttr]
            · cases a3 : decide (60 * (wt - x.k.rest) ≤ z.minutes.hi * rate)
              · simp (maxSteps := 400000) only [H9, W_drawH, w3, w4, w5, w6, w7, w8, w9, w10, w11, w12, hf, hS, hL0, hL1, hZ0, a1, a2, a3, go_sem, simprocAttr]
                (first | refine WF_pure (cAwake) rfl ?_ | refine WDQ_pure (cAwake) rfl ?_)
                simp (maxSteps := 400000) only [H9, W_drawH, go_sem, simprocAttr]
              · cases a4 : decide (z.weight.lo ≤ wt)
                · simp (maxSteps := 400000) only [H9, W_drawH, w3, w4, w5, w6, w7, w8, w9, w10, w11, w12, hf, hS, hL0, hL1, hZ0, a1, a2, a3, a4, go_sem, simprocAttr]
                  (first | refine WF_pure (cAwake) rfl ?_ | refine WDQ_pure (cAwake) rfl ?_)
                  simp (maxSteps := 400000) only [H9, W_drawH, go_sem, simprocAttr]
                · cases a5 : decide (wt ≤ z.weight.hi)
                  · simp (maxSteps := 400000) only [H9, W_drawH, w3, w4, w5, w6, w7, w8, w9, w10, w11, w12, hf, hS, hL0, hL1, hZ0, a1, a2, a3, a4, a5, go_sem, simprocAttr]
                    (first | refine WF_pure (cAwake) rfl ?_ | refine WDQ_pure (cAwake) rfl ?_)
                    simp (maxSteps := 400000) only [H9, W_drawH, go_sem, simprocAttr]
                  · simp (maxSteps := 400000) only [H9, W_drawH, w3, w4, w5, w6, w7, w8, w9, w10, w11, w12, hf, hS, hL0, hL1, hZ0, a1, a2, a3, a4, a5, go_sem, simprocAttr]
                    (first | refine WF_pure (cAwake) rfl ?_ | refine WDQ_pure (cAwake) rfl ?_)
                    simp (maxSteps := 400000) only [H9, W_drawH, go_sem, simprocAttr]
    · cases hZ0 : decide (x.k.weight.lo < z.weight.lo)
      · cases hZ1 : decide (z.weight.hi < x.k.weight.hi)
        · simp only [hS, hL0, hZ0, hZ1, Bool.or_false, Bool.false_or, Bool.or_true, Bool.true_or, if_true, if_false, Bool.false_eq_true] at hf
          cases a1 : decide (z.minutes.lo * rate ≤ 60 * (wt - x.k.rest))
          · simp (maxSteps := 400000) only [H9, W_drawH, w3, w4, w5, w6, w7, w8, w9, w10, w11, w12, hf, hS, hL0, hZ0, hZ1, a1, go_sem, simprocAttr]
            (first | refine WF_pure (cAwake) rfl ?_ | refine WDQ_pure (cAwake) rfl ?_)
            simp (maxSteps := 400000) only [H9, W_drawH, go_sem, simprocAttr]
          · cases a2 : decide (0 < rate)
            · simp (maxSteps := 400000) only [H9, W_drawH, w3, w4, w5, w6, w7, w8, w9, w10, w11, w12, hf, hS, hL0, hZ0, hZ1, a1, a2, go_sem, simprocAttr]
              (first | refine WF_pure (cAwake) rfl ?_ | refine WDQ_pure (cAwake) rfl ?_)
              simp (maxSteps := 400000) only [H9, W_drawH, go_sem, simprocAttr]
            · cases a3 : decide (60 * (wt - x.k.rest) ≤ z.minutes.hi * rate)
              · simp (maxSteps := 400000) only [H9, W_drawH, w3, w4, w5, w6, w7, w8, w9, w10, w11, w12, hf, hS, hL0, hZ0, hZ1, a1, a2, a3, go_sem, simprocAttr]
                (first | refine WF_pure (cAwake) rfl ?_ | refine WDQ_pure (cAwake) rfl ?_)
                simp (maxSteps := 400000) only [H9, W_drawH, go_sem, simprocAttr]
              · cases a4 : decide (z.weight.lo ≤ wt)
                · simp (maxSteps := 400000) only [H9, W_drawH, w3, w4, w5, w6, w7, w8, w9, w10, w11, w12, hf, hS, hL0, hZ0, hZ1, a1, a2, a3, a4, go_sem, simprocAttr]
                  (first | refine WF_pure (cAwake) rfl ?_ | refine WDQ_pure (cAwake) rfl ?_)
                  simp (maxSteps := 400000) only [H9, W_drawH, go_sem, simprocAttr]
                · cases a5 : decide (wt ≤ z.weight.hi)
                  · simp (maxSteps := 400000) only [H9, W_drawH, w3, w4, w5, w6, w7, w8, w9, w10, w11, w12, hf, hS, hL0, hZ0, hZ1, a1, a2, a3, a4, a5, go_sem, simprocAttr]
                    (first | refine WF_pure (cAwake) rfl ?_ | refine WDQ_pure (cAwake) rfl ?_)
                    simp (maxSteps := 400000) only [H9, W_drawH, go_sem, simprocAttr]
                  · simp (maxSteps := 400000) only [H9, W_drawH, w3, w4, w5, w6, w7, w8, w9, w10, w11, w12, hf, hS, hL0, hZ0, hZ1, a1, a2, a3, a4, a5, go_sem, simprocAttr]
                    (first | refine WF_pure (cAwake) rfl ?_ | refine WDQ_pure (cAwake) rfl ?_)
                    simp (maxSteps := 400000) only [H9, W_drawH, go_sem, simprocAttr]
        · simp only [hS, hL0, hZ0, hZ1, Bool.or_false, Bool.false_or, Bool.or_true, Bool.true_or, if_true, if_false, Bool.false_eq_true] at hf
          cases a1 : decide (z.minutes.lo * rate ≤ 60 * (wt - x.k.rest))
          · simp (maxSteps := 400000) only [H9, W_drawH, w3, w4, w5, w6, w7, w8, w9, w10, w11, w12, hf, hS, hL0, hZ0, hZ1, a1, go_sem, simprocAttr]
            (first | refine WF_pure (cAwake) rfl ?_ | refine WDQ_pure (cAwake) rfl ?_)
            simp (maxSteps := 400000) only [H9, W_drawH, go_sem, simprocAttr]
          · cases a2 : decide (0 < rate)
            · simp (maxSteps := 400000) only [H9, W_drawH, w3, w4, w5, w6, w7, w8, w9, w10, w11, w12, hf, hS, hL0, hZ0, hZ1, a1, a2, go_sem, simprocAttr]
              (first | refine WF_pure (cAwake) rfl ?_ | refine WDQ_pure (cAwake) rfl ?_)
              simp (maxSteps := 400000) only [H9, W_drawH, go_sem, simprocAttr]
            · cases a3 : decide (60 * (wt - x.k.rest) ≤ z.minutes.hi * rate)
              · simp (maxSteps := 400000) only [H9, W_drawH, w3, w4, w5, w6, w7, w8, w9, w10, w11, w12, hf, hS, hL0, hZ0, hZ1, a1, a2, a3, go_sem, simprocAttr]
                (first | refine WF_pure (cAwake) rfl ?_ | refine WDQ_pure (cAwake) rfl ?_)
                simp (maxSteps := 400000) only [H9, W_drawH, go_sem, simprocAttr]
              · cases a4 : decide (z.weight.lo ≤ wt)
                · simp (maxSteps := 400000) only [H9, W_drawH, w3, w4, w5, w6, w7, w8, w9, w10, w11, w12, hf, hS, hL0, hZ0, hZ1, a1, a2, a3, a4, go_sem, simprocAttr]
                  (first | refine WF_pure (cAwake) rfl ?_ | refine WDQ_pure (cAwake) rfl ?_)
                  simp (maxSteps := 400000) only [H9, W_drawH, go_sem, simprocAttr]
                · cases a5 : decide (wt ≤ z.weight.hi)
                  · simp (maxSteps := 400000) only [H9, W_drawH, w3, w4, w5, w6, w7, w8, w9, w10, w11, w12, hf, hS, hL0, hZ0, hZ1, a1, a2, a3, a4, a5, go_sem, simprocAttr]
                    (first | refine WF_pure (cAwake) rfl ?_ | refine WDQ_pure (cAwake) rfl ?_)
                    simp (maxSteps := 400000) only [H9, W_drawH, go_sem, simprocAttr]
                  · simp (maxSteps := 400000) only [H9, W_drawH, w3, w4, w5, w6, w7, w8, w9, w10, w11, w12, hf, hS, hL0, hZ0, hZ1, a1, a2, a3, a4, a5, go_sem, simprocAttr]
                    (first | refine WF_pure (cAwake) rfl ?_ | refine WDQ_pure (cAwake) rfl ?_)
                    simp (maxSteps := 400000) only [H9, W_drawH, go_sem, simprocAttr]
      · simp only [hS, hL0, hZ0, Bool.or_false, Bool.false_or, Bool.or_true, Bool.true_or, if_true, if_false, Bool.false_eq_true] at hf
        cases a1 : decide (z.minutes.lo * rate ≤ 60 * (wt - x.k.rest))
        · simp (maxSteps := 400000) only [H9, W_drawH, w3, w4, w5, w6, w7, w8, w9, w10, w11, w12, hf, hS, hL0, hZ0, a1, go_sem, simprocAttr]
          (first | refine WF_pure (cAwake) rfl ?_ | refine WDQ_pure (cAwake) rfl ?_)
          simp (maxSteps := 400000) only [H9, W_drawH, go_sem, simprocAttr]
        · cases a2 : decide (0 < rate)
          · simp (maxSteps := 400000) only [H9, W_drawH, w3, w4, w5, w6, w7, w8, w9, w10, w11, w12, hf, hS, hL0, hZ0, a1, a2, go_sem, simprocAttr]
            (first | refine WF_pure (cAwake) rfl ?_ | refine WDQ_pure (cAwake) rfl ?_)
            simp (maxSteps := 400000) only [H9, W_drawH, go_sem, simprocAttr]
          · cases a3 : decide (60 * (wt - x.k.rest) ≤ z.minutes.hi * rate)
            · simp (maxSteps := 400000) only [H9, W_drawH, w3, w4, w5, w6, w7, w8, w9, w10, w11, w12, hf, hS, hL0, hZ0, a1, a2, a3, go_sem, simprocAttr]
              (first | refine WF_pure (cAwake) rfl ?_ | refine WDQ_pure (cAwake) rfl ?_)
              simp (maxSteps := 400000) only [H9, W_drawH, go_sem, simprocAttr]
            · cases a4 : decide (z.weight.lo ≤ wt)
              · simp (maxSteps := 400000) only [H9, W_drawH, w3, w4, w5, w6, w7, w8, w9, w10, w11, w12, hf, hS, hL0, hZ0, a1, a2, a3, a4, go_sem, simprocAttr]
                (first | refine WF_pure (cAwake) rfl ?_ | refine WDQ_pure (cAwake) rfl ?_)
                simp (maxSteps := 400000) only [H9, W_drawH, go_sem, simprocAttr]
              · cases a5 : decide (wt ≤ z.weight.hi)
                · simp (maxSteps := 400000) only [H9, W_drawH, w3, w4, w5, w6, w7, w8, w9, w10, w11, w12, hf, hS, hL0, hZ0, a1, a2, a3, a4, a5, go_sem, simprocAttr]
                  (first | refine WF_pure (cAwake) rfl ?_ | refine WDQ_pure (cAwake) rfl ?_)
                  simp (maxSteps := 400000) only [H9, W_drawH, go_sem, simprocAttr]
                · simp (maxSteps := 400000) only [H9, W_drawH, w3, w4, w5, w6, w7, w8, w9, w10, w11, w12, hf, hS, hL0, hZ0, a1, a2, a3, a4, a5, go_sem, simprocAttr]
                  (first | refine WF_pure (cAwake) rfl ?_ | refine WDQ_pure (cAwake) rfl ?_)
                  simp (maxSteps := 400000) only [H9, W_drawH, go_sem, simprocAttr]
  · cases hL0 : (x.rates.lo == 0)
    · cases hL1 : decide (z.minutes.hi * x.rates.lo < 60 * (x.k.weight.hi - x.k.rest))
      · cases hZ0 : decide (x.k.weight.lo < z.weight.lo)
        · cases hZ1 : decide (z.weight.hi < x.k.weight.hi)
          · simp only [hS, hL0, hL1, hZ0, hZ1, Bool.or_false, Bool.false_or, Bool.or_true, Bool.true_or, if_true, if_false, Bool.false_eq_true] at hf
            cases a1 : decide (z.minutes.lo * rate ≤ 60 * (wt - x.k.rest))
            · simp (maxSteps := 400000) only [H9, W_drawH, w3, w4, w5, w6, w7, w8, w9, w10, w11, w12, hf, hS, hL0, hL1, hZ0, hZ1, a1, go_sem, simprocAttr]
              (first | refine WF_pure (cAwake) rfl ?_ | refine WDQ_pure (cAwake) rfl ?_)
              simp (maxSteps := 400000) only [H9, W_drawH, go_sem, simprocAttr]
            · cases a2 : decide (0 < rate)
              · simp (maxSteps := 400000) only [H9, W_drawH, w3, w4, w5, w6, w7, w8, w9, w10, w11, w12, hf, hS, hL0, hL1, hZ0, hZ1, a1, a2, go_sem, simprocAttr]
                (first | refine WF_pure (cAwake) rfl ?_ | refine WDQ_pure (cAwake) rfl ?_)
                simp (maxSteps := 400000) only [H9, W_drawH, go_sem, simprocAttr]
              · cases a3 : decide (60 * (wt - x.k.rest) ≤ z.minutes.hi * rate)
                · simp (maxSteps := 400000) only [H9, W_drawH, w3, w4, w5, w6, w7, w8, w9, w10, w11, w12, hf, hS, hL0, hL1, hZ0, hZ1, a1, a2, a3, go_sem, simprocAttr]
                  (first | refine WF_pure (cAwake) rfl ?_ | refine WDQ_pure (cAwake) rfl ?_)
                  simp (maxSteps := 400000) only [H9, W_drawH, go_sem, simprocAttr]
                · cases a4 : decide (z.weight.lo ≤ wt)
                  · simp (maxSteps := 400000) only [H9, W_drawH, w3, w4, w5, w6, w7, w8, w9, w10, w11, w12, hf, hS, hL0, hL1, hZ0, hZ1, a1, a2, a3, a4, go_sem, simprocAttr]
                    (first | refine WF_pure (cAwake) rfl ?_ | refine WDQ_pure (cAwake) rfl ?_)
                    simp (maxSteps := 400000) only [H9, W_drawH, go_sem, simprocAttr]
                  · cases a5 : decide (wt ≤ z.weight.hi)
                    · simp (maxSteps := 400000) only [H9, W_drawH, w3, w4, w5, w6, w7, w8, w9, w10, w11, w12, hf, hS, hL0, hL1, hZ0, hZ1, a1, a2, a3, a4, a5, go_sem, simprocAttr]
                      (first | refine WF_pure (cAwake) rfl ?_ | refine WDQ_pure (cAwake) rfl ?_)
                      simp (maxSteps := 400000) only [H9, W_drawH, go_sem, simprocAttr]
                    · simp (maxSteps := 400000) only [H9, W_drawH, w3, w4, w5, w6, w7, w8, w9, w10, w11, w12, hf, hS, hL0, hL1, hZ0, hZ1, a1, a2, a3, a4, a5, go_sem, simprocAttr]
                      (first | refine WF_pure (cAwake) rfl ?_ | refine WDQ_pure (cAwake) rfl ?_)
                      simp (maxSteps := 400000) only [H9, W_drawH, go_sem, simprocAttr]
          · simp only [hS, hL0, hL1, hZ0, hZ1, Bool.or_false, Bool.false_or, Bool.or_true, Bool.true_or, if_true, if_false, Bool.false_eq_true] at hf
            cases a1 : decide (z.minutes.lo * rate ≤ 60 * (wt - x.k.rest))
            · simp (maxSteps := 400000) only [H9, W_drawH, w3, w4, w5, w6, w7, w8, w9, w10, w11, w12, hf, hS, hL0, hL1, hZ0, hZ1, a1, go_sem, simprocAttr]
              (first | refine WF_pure (cAwake) rfl ?_ | refine WDQ_pure (cAwake) rfl ?_)
              simp (maxSteps := 400000) only [H9, W_drawH, go_sem, simprocAttr]
            · cases a2 : decide (0 < rate)
              · simp (maxSteps := 400000) only [H9, W_drawH, w3, w4, w5, w6, w7, w8, w9, w10, w11, w12, hf, hS, hL0, hL1, hZ0, hZ1, a1, a2, go_sem, simprocAttr]
                (first | refine WF_pure (cAwake) rfl ?_ | refine WDQ_pure (cAwake) rfl ?_)
                simp (maxSteps := 400000) only [H9, W_drawH, go_sem, simprocAttr]
              · cases a3 : decide (60 * (wt - x.k.rest) ≤ z.minutes.hi * rate)
                · simp (maxSteps := 400000) only [H9, W_drawH, w3, w4, w5, w6, w7, w8, w9, w10, w11, w12, hf, hS, hL0, hL1, hZ0, hZ1, a1, a2, a3, go_sem, simprocAttr]
                  (first | refine WF_pure (cAwake) rfl ?_ | refine WDQ_pure (cAwake) rfl ?_)
                  simp (maxSteps := 400000) only [H9, W_drawH, go_sem, simprocAttr]
                · cases a4 : decide (z.weight.lo ≤ wt)
                  · simp (maxSteps := 400000) only [H9, W_drawH, w3, w4, w5, w6, w7, w8, w9, w10, w11, w12, hf, hS, hL0, hL1, hZ0, hZ1, a1, a2, a3, a4, go_sem, simprocAttr]
                    (first | refine WF_pure (cAwake) rfl ?_ | refine WDQ_pure (cAwake) rfl ?_)
                    simp (maxSteps := 400000) only [H9, W_drawH, go_sem, simprocAttr]
                  · cases a5 : decide (wt ≤ z.weight.hi)
                    · simp (maxSteps := 400000) only [H9, W_drawH, w3, w4, w5, w6, w7, w8, w9, w10, w11, w12, hf, hS, hL0, hL1, hZ0, hZ1, a1, a2, a3, a4, a5, go_sem, simprocAttr]
                      (first | refine WF_pure (cAwake) rfl ?_ | refine WDQ_pure (cAwake) rfl ?_)
                      simp (maxSteps := 400000) only [H9, W_drawH, go_sem, simprocAttr]
                    · simp (maxSteps := 400000) only [H9, W_drawH, w3, w4, w5, w6, w7, w8, w9, w10, w11, w12, hf, hS, hL0, hL1, hZ0, hZ1, a1, a2, a3, a4, a5, go_sem, simprocAttr]
                      (first | refine WF_pure (cAwake) rfl ?_ | refine WDQ_pure (cAwake) rfl ?_)
                      simp (maxSteps := 400000) only [H9, W_drawH, go_sem, simprocAttr]
        · simp only [hS, hL0, hL1, hZ0, Bool.or_false, Bool.false_or, Bool.or_true, Bool.true_or, if_true, if_false, Bool.false_eq_true] at hf
          cases a1 : decide (z.minutes.lo * rate ≤ 60 * (wt - x.k.rest))
          · simp (maxSteps := 400000) only [H9, W_drawH, w3, w4, w5, w6, w7, w8, w9, w10, w11, w12, hf, hS, hL0, hL1, hZ0, a1, go_sem, simprocAttr]
            (first | refine WF_pure (cAwake) rfl ?_ | refine WDQ_pure (cAwake) rfl ?_)
            simp (maxSteps := 400000) only [H9, W_drawH, go_sem, simprocAttr]
          · cases a2 : decide (0 < rate)
            · simp (maxSteps := 400000) only [H9, W_drawH, w3, w4, w5, w6, w7, w8, w9, w10, w11, w12, hf, hS, hL0, hL1, hZ0, a1, a2, go_sem, simprocAttr]
              (first | refine WF_pure (cAwake) rfl ?_ | refine WDQ_pure (cAwake) rfl ?_)
              simp (maxSteps := 400000) only [H9, W_drawH, go_sem, simprocAttr]
            · cases a3 : decide (60 * (wt - x.k.rest) ≤ z.minutes.hi * rate)
              · simp (maxSteps := 400000) only [H9, W_drawH, w3, w4, w5, w6, w7, w8, w9, w10, w11, w12, hf, hS, hL0, hL1, hZ0, a1, a2, a3, go_sem, simprocAttr]
                (first | refine WF_pure (cAwake) rfl ?_ | refine WDQ_pure (cAwake) rfl ?_)
                simp (maxSteps := 400000) only [H9, W_drawH, go_sem, simprocAttr]
              · cases a4 : decide (z.weight.lo ≤ wt)
                · simp (maxSteps := 400000) only [H9, W_drawH, w3, w4, w5, w6, w7, w8, w9, w10, w11, w12, hf, hS, hL0, hL1, hZ0, a1, a2, a3, a4, go_sem, simprocAttr]
                  (first | refine WF_pure (cAwake) rfl ?_ | refine WDQ_pure (cAwake) rfl ?_)
                  simp (maxSteps := 400000) only [H9, W_drawH, go_sem, simprocAttr]
                · cases a5 : decide (wt ≤ z.weight.hi)
                  · simp (maxSteps := 400000) only [H9, W_drawH, w3, w4, w5, w6, w7, w8, w9, w10, w11, w12, hf, hS, hL0, hL1, hZ0, a1, a2, a3, a4, a5, go_sem, simprocAttr]
                    (first | refine WF_pure (cAwake) rfl ?_ | refine WDQ_pure (cAwake) rfl ?_)
                    simp (maxSteps := 400000) only [H9, W_drawH, go_sem, simprocAttr]
                  · simp (maxSteps := 400000) only [H9, W_drawH, w3, w4, w5, w6, w7, w8, w9, w10, w11, w12, hf, hS, hL0, hL1, hZ0, a1, a2, a3, a4, a5, go_sem, simprocAttr]
                    (first | refine WF_pure (cAwake) rfl ?_ | refine WDQ_pure (cAwake) rfl ?_)
                    simp (maxSteps := 400000) only [H9, W_drawH, go_sem, simprocAttr]
      · cases hZ0 : decide (x.k.weight.lo < z.weight.lo)
        · cases hZ1 : decide (z.weight.hi < x.k.weight.hi)
          · simp only [hS, hL0, hL1, hZ0, hZ1, Bool.or_false, Bool.false_or, Bool.or_true, Bool.true_or, if_true, if_false, Bool.false_eq_true] at hf
            cases a1 : decide (z.minutes.lo * rate ≤ 60 * (wt - x.k.rest))
            · simp (maxSteps := 400000) only [H9, W_drawH, w3, w4, w5, w6, w7, w8, w9, w10, w11, w12, hf, hS, hL0, hL1, hZ0, hZ1, a1, go_sem, simprocAttr]
              (first | refine WF_pure (cAwake) rfl ?_ | refine WDQ_pure (cAwake) rfl ?_)
              simp (maxSteps := 400000) only [H9, W_drawH, go_sem, simprocAttr]
            · cases a2 : decide (0 < rate)
              · simp (maxSteps := 400000) only [H9, W_drawH, w3, w4, w5, w6, w7, w8, w9, w10, w11, w12, hf, hS, hL0, hL1, hZ0, hZ1, a1, a2, go_sem, simprocAttr]
                (first | refine WF_pure (cAwake) rfl ?_ | refine WDQ_pure (cAwake) rfl ?_)
                simp (maxSteps := 400000) only [H9, W_drawH, go_sem, simprocAttr]
              · cases a3 : decide (60 * (wt - x.k.rest) ≤ z.minutes.hi * rate)
                · simp (maxSteps := 400000) only [H9, W_drawH, w3, w4, w5, w6, w7, w8, w9, w10, w11, w12, hf, hS, hL0, hL1, hZ0, hZ1, a1, a2, a3, go_sem, simprocAttr]
                  (first | refine WF_pure (cAwake) rfl ?_ | refine WDQ_pure (cAwake) rfl ?_)
                  simp (maxSteps := 400000) only [H9, W_drawH, go_sem, simprocAttr]
                · cases a4 : decide (z.weight.lo ≤ wt)
                  · simp (maxSteps := 400000) only [H9, W_drawH, w3, w4, w5, w6, w7, w8, w9, w10, w11, w12, hf, hS, hL0, hL1, hZ0, hZ1, a1, a2, a3, a4, go_sem, simprocAttr]
                    (first | refine WF_pure (cAwake) rfl ?_ | refine WDQ_pure (cAwake) rfl ?_)
                    simp (maxSteps := 400000) only [H9, W_drawH, go_sem, simprocAttr]
                  · cases a5 : decide (wt ≤ z.weight.hi)
                    · simp (maxSteps := 400000) only [H9, W_drawH, w3, w4, w5, w6, w7, w8, w9, w10, w11, w12, hf, hS, hL0, hL1, hZ0, hZ1, a1, a2, a3, a4, a5, go_sem, simprocAttr]
                      (first | refine WF_pure (cAwake) rfl ?_ | refine WDQ_pure (cAwake) rfl ?_)
                      simp (maxSteps := 400000) only [H9, W_drawH, go_sem, simprocAttr]
                    · simp (maxSteps := 400000) only [H9, W_drawH, w3, w4, w5, w6, w7, w8, w9, w10, w11, w12, hf, hS, hL0, hL1, hZ0, hZ1, a1, a2, a3, a4, a5, go_sem, simprocAttr]
                      (first | refine WF_pure (cAwake) rfl ?_ | refine WDQ_pure (cAwake) rfl ?_)
                      simp (maxSteps := 400000) only [H9, W_drawH, go_sem, simprocAttr]
          · simp only [hS, hL0, hL1, hZ0, hZ1, Bool.or_false, Bool.false_or, Bool.or_true, Bool.true_or, if_true, if_false, Bool.false_eq_true] at hf
            cases a1 : decide (z.minutes.lo * rate ≤ 60 * (wt - x.k.rest))
            · simp (maxSteps := 400000) only [H9, W_drawH, w3, w4, w5, w6, w7, w8, w9, w10, w11, w12, hf, hS, hL0, hL1, hZ0, hZ1, a1, go_sem, simprocAttr]
              (first | refine WF_pure (cAwake) rfl ?_ | refine WDQ_pure (cAwake) rfl ?_)
              simp (maxSteps := 400000) only [H9, W_drawH, go_sem, simprocAttr]
            · cases a2 : decide (0 < rate)
              · simp (maxSteps := 400000) only [H9, W_drawH, w3, w4, w5, w6, w7, w8, w9, w10, w11, w12, hf, hS, hL0, hL1, hZ0, hZ1, a1, a2, go_sem, simprocAttr]
                (first | refine WF_pure (cAwake) rfl ?_ | refine WDQ_pure (cAwake) rfl ?_)
                simp (maxSteps := 400000) only [H9, W_drawH, go_sem, simprocAttr]
              · cases a3 : decide (60 * (wt - x.k.rest) ≤ z.minutes.hi * rate)
                · simp (maxSteps := 400000) only [H9, W_drawH, w3, w4, w5, w6, w7, w8, w9, w10, w11, w12, hf, hS, hL0, hL1, hZ0, hZ1, a1, a2, a3, go_sem, simprocAttr]
                  (first | refine WF_pure (cAwake) rfl ?_ | refine WDQ_pure (cAwake) rfl ?_)
                  simp (maxSteps := 400000) only [H9, W_drawH, go_sem, simprocAttr]
                · cases a4 : decide (z.weight.lo ≤ wt)
                  · simp (maxSteps := 400000) only [H9, W_drawH, w3, w4, w5, w6, w7, w8, w9, w10, w11, w12, hf, hS, hL0, hL1, hZ0, hZ1, a1, a2, a3, a4, go_sem, simprocAttr]
                    (first | refine WF_pure (cAwake) rfl ?_ | refine WDQ_pure (cAwake) rfl ?_)
                    simp (maxSteps := 400000) only [H9, W_drawH, go_sem, simprocAttr]
                  · cases a5 : decide (wt ≤ z.weight.hi)
                    · simp (maxSteps := 400000) only [H9, W_drawH, w3, w4, w5, w6, w7, w8, w9, w10, w11, w12, hf, hS, hL0, hL1, hZ0, hZ1, a1, a2, a3, a4, a5, go_sem, simprocAttr]
                      (first | refine WF_pure (cAwake) rfl ?_ | refine WDQ_pure (cAwake) rfl ?_)
                      simp (maxSteps := 400000) only [H9, W_drawH, go_sem, simprocAttr]
                    · simp (maxSteps := 400000) only [H9, W_drawH, w3, w4, w5, w6, w7, w8, w9, w10, w11, w12, hf, hS, hL0, hL1, hZ0, hZ1, a1, a2, a3, a4, a5, go_sem, simprocAttr]
                      (first | refine WF_pure (cAwake) rfl ?_ | refine WDQ_pure (cAwake) rfl ?_)
                      simp (maxSteps := 400000) only [H9, W_drawH, go_sem, simprocAttr]
        · simp only [hS, hL0, hL1, hZ0, Bool.or_false, Bool.false_or, Bool.or_true, Bool.true_or, if_true, if_false, Bool.false_eq_true] at hf
          cases a1 : decide (z.minutes.lo * rate ≤ 60 * (wt - x.k.rest))
          · simp (maxSteps := 400000) only [H9, W_drawH, w3, w4, w5, w6, w7, w8, w9, w10, w11, w12, hf, hS, hL0, hL1, hZ0, a1, go_sem, simprocAttr]
            (first | refine WF_pure (cAwake) rfl ?_ | refine WDQ_pure (cAwake) rfl ?_)
            simp (maxSteps := 400000) only [H9, W_drawH, go_sem, simprocAttr]
          · cases a2 : decide (0 < rate)
            · simp (maxSteps := 400000) only [H9, W_drawH, w3, w4, w5, w6, w7, w8, w9, w10, w11, w12, hf, hS, hL0, hL1, hZ0, a1, a2, go_sem, simprocAttr]
              (first | refine WF_pure (cAwake) rfl ?_ | refine WDQ_pure (cAwake) rfl ?_)
              simp (maxSteps := 400000) only [H9, W_drawH, go_sem, simprocAttr]
            · cases a3 : decide (60 * (wt - x.k.rest) ≤ z.minutes.hi * rate)
              · simp (maxSteps := 400000) only [H9, W_drawH, w3, w4, w5, w6, w7, w8, w9, w10, w11, w12, hf, hS, hL0, hL1, hZ0, a1, a2, a3, go_sem, simprocAttr]
                (first | refine WF_pure (cAwake) rfl ?_ | refine WDQ_pure (cAwake) rfl ?_)
                simp (maxSteps := 400000) only [H9, W_drawH, go_sem, simprocAttr]
              · cases a4 : decide (z.weight.lo ≤ wt)
                · simp (maxSteps := 400000) only [H9, W_drawH, w3, w4, w5, w6, w7, w8, w9, w10, w11, w12, hf, hS, hL0, hL1, hZ0, a1, a2, a3, a4, go_sem, simprocAttr]
                  (first | refine WF_pure (cAwake) rfl ?_ | refine WDQ_pure (cAwake) rfl ?_)
                  simp (maxSteps := 400000) only [H9, W_drawH, go_sem, simprocAttr]
                · cases a5 : decide (wt ≤ z.weight.hi)
                  · simp (maxSteps := 400000) only [H9, W_drawH, w3, w4, w5, w6, w7, w8, w9, w10, w11, w12, hf, hS, hL0, hL1, hZ0, a1, a2, a3, a4, a5, go_sem, simprocAttr]
                    (first | refine WF_pure (cAwake) rfl ?_ | refine WDQ_pure (cAwake) rfl ?_)
                    simp (maxSteps := 400000) only [H9, W_drawH, go_sem, simprocAttr]
                  · simp (maxSteps := 400000) only [H9, W_drawH, w3, w4, w5, w6, w7, w8, w9, w10, w11, w12, hf, hS, hL0, hL1, hZ0, a1, a2, a3, a4, a5, go_sem, simprocAttr]
                    (first | refine WF_pure (cAwake) rfl ?_ | refine WDQ_pure (cAwake) rfl ?_)
                    simp (maxSteps := 400000) only [H9, W_drawH, go_sem, simprocAttr]
    · cases hZ0 : decide (x.k.weight.lo < z.weight.lo)
      · cases hZ1 : decide (z.weight.hi < x.k.weight.hi)
        · simp only [hS, hL0, hZ0, hZ1, Bool.or_false, Bool.false_or, Bool.or_true, Bool.true_or, if_true, if_false, Bool.false_eq_true] at hf
          cases a1 : decide (z.minutes.lo * rate ≤ 60 * (wt - x.k.rest))
          · simp (maxSteps := 400000) only [H9, W_drawH, w3, w4, w5, w6, w7, w8, w9, w10, w11, w12, hf, hS, hL0, hZ0, hZ1, a1, go_sem, simprocAttr]
            (first | refine WF_pure (cAwake) rfl ?_ | refine WDQ_pure (cAwake) rfl ?_)
            simp (maxSteps := 400000) only [H9, W_drawH, go_sem, simprocAttr]
          · cases a2 : decide (0 < rate)
            · simp (maxSteps := 400000) only [H9, W_drawH, w3, w4, w5, w6, w7, w8, w9, w10, w11, w12, hf, hS, hL0, hZ0, hZ1, a1, a2, go_sem, simprocAttr]
              (first | refine WF_pure (cAwake) rfl ?_ | refine WDQ_pure (cAwake) rfl ?_)
              simp (maxSteps := 400000) only [H9, W_drawH, go_sem, simprocAttr]
            · cases a3 : decide (60 * (wt - x.k.rest) ≤ z.minutes.hi * rate)
              · simp (maxSteps := 400000) only [H9, W_drawH, w3, w4, w5, w6, w7, w8, w9, w10, w11, w12, hf, hS, hL0, hZ0, hZ1, a1, a2, a3, go_sem, simprocAttr]
                (first | refine WF_pure (cAwake) rfl ?_ | refine WDQ_pure (cAwake) rfl ?_)
                simp (maxSteps := 400000) only [H9, W_drawH, go_sem, simprocAttr]
              · cases a4 : decide (z.weight.lo ≤ wt)
                · simp (maxSteps := 400000) only [H9, W_drawH, w3, w4, w5, w6, w7, w8, w9, w10, w11, w12, hf, hS, hL0, hZ0, hZ1, a1, a2, a3, a4, go_sem, simprocAttr]
                  (first | refine WF_pure (cAwake) rfl ?_ | refine WDQ_pure (cAwake) rfl ?_)
                  simp (maxSteps := 400000) only [H9, W_drawH, go_sem, simprocAttr]
                · cases a5 : decide (wt ≤ z.weight.hi)
                  · simp (maxSteps := 400000) only [H9, W_drawH, w3, w4, w5, w6, w7, w8, w9, w10, w11, w12, hf, hS, hL0, hZ0, hZ1, a1, a2, a3, a4, a5, go_sem, simprocAttr]
                    (first | refine WF_pure (cAwake) rfl ?_ | refine WDQ_pure (cAwake) rfl ?_)
                    simp (maxSteps := 400000) only [H9, W_drawH, go_sem, simprocAttr]
                  · simp (maxSteps := 400000) only [H9, W_drawH, w3, w4, w5, w6, w7, w8, w9, w10, w11, w12, hf, hS, hL0, hZ0, hZ1, a1, a2, a3, a4, a5, go_sem, simprocAttr]
                    (first | refine WF_pure (cAwake) rfl ?_ | refine WDQ_pure (cAwake) rfl ?_)
                    simp (maxSteps := 400000) only [H9, W_drawH, go_sem, simprocAttr]
        · simp only [hS, hL0, hZ0, hZ1, Bool.or_false, Bool.false_or, Bool.or_true, Bool.true_or, if_true, if_false, Bool.false_eq_true] at hf
          cases a1 : decide (z.minutes.lo * rate ≤ 60 * (wt - x.k.rest))
          · simp (maxSteps := 400000) only [H9, W_drawH, w3, w4, w5, w6, w7, w8, w9, w10, w11, w12, hf, hS, hL0, hZ0, hZ1, a1, go_sem, simprocAttr]
            (first | refine WF_pure (cAwake) rfl ?_ | refine WDQ_pure (cAwake) rfl ?_)
            simp (maxSteps := 400000) only [H9, W_drawH, go_sem, simprocAttr]
          · cases a2 : decide (0 < rate)
            · simp (maxSteps := 400000) only [H9, W_drawH, w3, w4, w5, w6, w7, w8, w9, w10, w11, w12, hf, hS, hL0, hZ0, hZ1, a1, a2, go_sem, simprocAttr]
              (first | refine WF_pure (cAwake) rfl ?_ | refine WDQ_pure (cAwake) rfl ?_)
              simp (maxSteps := 400000) only [H9, W_drawH, go_sem, simprocAttr]
            · cases a3 : decide (60 * (wt - x.k.rest) ≤ z.minutes.hi * rate)
              · simp (maxSteps := 400000) only [H9, W_drawH, w3, w4, w5, w6, w7, w8, w9, w10, w11, w12, hf, hS, hL0, hZ0, hZ1, a1, a2, a3, go_sem, simprocAttr]
                (first | refine WF_pure (cAwake) rfl ?_ | refine WDQ_pure (cAwake) rfl ?_)
                simp (maxSteps := 400000) only [H9, W_drawH, go_sem, simprocAttr]
              · cases a4 : decide (z.weight.lo ≤ wt)
                · simp (maxSteps := 400000) only [H9, W_drawH, w3, w4, w5, w6, w7, w8, w9, w10, w11, w12, hf, hS, hL0, hZ0, hZ1, a1, a2, a3, a4, go_sem, simprocAttr]
                  (first | refine WF_pure (cAwake) rfl ?_ | refine WDQ_pure (cAwake) rfl ?_)
                  simp (maxSteps := 400000) only [H9, W_drawH, go_sem, simprocAttr]
                · cases a5 : decide (wt ≤ z.weight.hi)
                  · simp (maxSteps := 400000) only [H9, W_drawH, w3, w4, w5, w6, w7, w8, w9, w10, w11, w12, hf, hS, hL0, hZ0, hZ1, a1, a2, a3, a4, a5, go_sem, simprocAttr]
                    (first | refine WF_pure (cAwake) rfl ?_ | refine WDQ_pure (cAwake) rfl ?_)
                    simp (maxSteps := 400000) only [H9, W_drawH, go_sem, simprocAttr]
                  · simp (maxSteps := 400000) only [H9, W_drawH, w3, w4, w5, w6, w7, w8, w9, w10, w11, w12, hf, hS, hL0, hZ0, hZ1, a1, a2, a3, a4, a5, go_sem, simprocAttr]
                    (first | refine WF_pure (cAwake) rfl ?_ | refine WDQ_pure (cAwake) rfl ?_)
                    simp (maxSteps := 400000) only [H9, W_drawH, go_sem, simprocAttr]
      · simp only [hS, hL0, hZ0, Bool.or_false, Bool.false_or, Bool.or_true, Bool.true_or, if_true, if_false, Bool.false_eq_true] at hf
        cases a1 : decide (z.minutes.lo * rate ≤ 60 * (wt - x.k.rest))
        · simp (maxSteps := 400000) only [H9, W_drawH, w3, w4, w5, w6, w7, w8, w9, w10, w11, w12, hf, hS, hL0, hZ0, a1, go_sem, simprocAttr]
          (first | refine WF_pure (cAwake) rfl ?_ | refine WDQ_pure (cAwake) rfl ?_)
          simp (maxSteps := 400000) only [H9, W_drawH, go_sem, simprocAttr]
        · cases a2 : decide (0 < rate)
          · simp (maxSteps := 400000) only [H9, W_drawH, w3, w4, w5, w6, w7, w8, w9, w10, w11, w12, hf, hS, hL0, hZ0, a1, a2, go_sem, simprocAttr]
            (first | refine WF_pure (cAwake) rfl ?_ | refine WDQ_pure (cAwake) rfl ?_)
            simp (maxSteps := 400000) only [H9, W_drawH, go_sem, simprocAttr]
          · cases a3 : decide (60 * (wt - x.k.rest) ≤ z.minutes.hi * rate)
            · simp (maxSteps := 400000) only [H9, W_drawH, w3, w4, w5, w6, w7, w8, w9, w10, w11, w12, hf, hS, hL0, hZ0, a1, a2, a3, go_sem, simprocAttr]
              (first | refine WF_pure (cAwake) rfl ?_ | refine WDQ_pure (cAwake) rfl ?_)
              simp (maxSteps := 400000) only [H9, W_drawH, go_sem, simprocAttr]
            · cases a4 : decide (z.weight.lo ≤ wt)
              · simp (maxSteps := 400000) only [H9, W_drawH, w3, w4, w5, w6, w7, w8, w9, w10, w11, w12, hf, hS, hL0, hZ0, a1, a2, a3, a4, go_sem, simprocAttr]
                (first | refine WF_pure (cAwake) rfl ?_ | refine WDQ_pure (cAwake) rfl ?_)
                simp (maxSteps := 400000) only [H9, W_drawH, go_sem, simprocAttr]
              · cases a5 : decide (wt ≤ z.weight.hi)
                · simp (maxSteps := 400000) only [H9, W_drawH, w3, w4, w5, w6, w7, w8, w9, w10, w11, w12, hf, hS, hL0, hZ0, a1, a2, a3, a4, a5, go_sem, simprocAttr]
                  (first | refine WF_pure (cAwake) rfl ?_ | refine WDQ_pure (cAwake) rfl ?_)
                  simp (maxSteps := 400000) only [H9, W_drawH, go_sem, simprocAttr]
                · simp (maxSteps := 400000) only [H9, W_drawH, w3, w4, w5, w6, w7, w8, w9, w10, w11, w12, hf, hS, hL0, hZ0, a1, a2, a3, a4, a5, go_sem, simprocAttr]
                  (first | refine WF_pure (cAwake) rfl ?_ | refine WDQ_pure (cAwake) rfl ?_)
                  simp (maxSteps := 400000) only [H9, W_drawH, go_sem, simprocAttr]
end Abs
end Go.Proofs.YtdellinghbppgaaGreatDoor
