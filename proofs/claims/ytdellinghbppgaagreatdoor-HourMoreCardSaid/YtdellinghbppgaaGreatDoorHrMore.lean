/-
  CONTRACTS: the law HourMore. No conditions but those in the theorems' heads.
-/
import Derived.Test.YtdellinghbppgaaGreatDoorHrFact
namespace Go.Proofs.YtdellinghbppgaaGreatDoor
namespace Abs
set_option linter.unusedSimpArgs false
set_option linter.unusedVariables false
set_option maxRecDepth 100000

theorem dropLast_ok {s : HrShop} {l : List HrTest} {t : HrTest} (h : hrTests s (l ++ [t]) = 0) : hrTests s l = 0 := by
  have h1 := hrTests_ok h
  rw [hrTests, if_pos h1.1, if_neg (by have := h1.2.1; simp at this; omega)]
  have key : ∀ (nk : Int) (l : List HrTest), testsErr nk (l ++ [t]) = 0 → testsErr nk l = 0 := by
    intro nk l
    induction l with
    | nil => intro _; rfl
    | cons x l ih =>
      intro h
      rw [List.cons_append, testsErr] at h
      rw [testsErr]
      split
      · rename_i h0; rw [if_pos h0] at h; exact ih h
      · rename_i h0; rw [if_neg h0] at h; exact h
  exact key _ _ h1.2.2
theorem rates_of {s : HrShop} {l : List HrTest} {j : Int} : (hrRates s l j).2 = (hrLook s l j).2 ∧ (hrPromise s l j).2 = (hrLook s l j).2 := by
  unfold hrRates hrPromise
  constructor <;> split <;> simp_all
set_option maxHeartbeats 4000000 in
theorem lHourMore (s : HrShop) (l : List HrTest) (x y : Int) (hx : 0 ≤ x ∧ x ≤ 255) (hy : 0 ≤ y ∧ y ≤ 255) :
    PCall Tryz.prog 11 [s.pv, .slice 3 (l.map HrTest.pv) false, .agg [.int .u8 x, .int .u8 y]] (.bool true) := by
  refine pcall_of_wp draws (fn := Tryz.f11) (n := 180) (rs := [.tmp 6]) (by kernel_rfl) rfl rfl rfl ok11 (Nat.le_of_ble_eq_true rfl) ?_
  simp (maxSteps := 400000) only [H11, W_drawH, go_sem, simprocAttr]
  (first | refine WF_pure (cRefTests s l false) rfl ?_ | refine WDQ_pure (cRefTests s l false) rfl ?_)
  simp (maxSteps := 400000) only [H11, W_drawH, go_sem, simprocAttr]
  cases h0 : (hrTests s l != 0)
  rotate_left
  · simp (maxSteps := 400000) only [H11, W_drawH, go_sem, simprocAttr]
    (first | refine WF_pure (cAwake) rfl ?_ | refine WDQ_pure (cAwake) rfl ?_)
    simp (maxSteps := 400000) only [H11, W_drawH, go_sem, simprocAttr]
  have h0' : hrTests s l = 0 := by simpa using h0
  cases hl0 : ((l.length : Int) == 0)
  rotate_left
  · simp (maxSteps := 400000) only [H11, W_drawH, hl0, go_sem, simprocAttr]
    (first | refine WF_pure (cAwake) rfl ?_ | refine WDQ_pure (cAwake) rfl ?_)
    simp (maxSteps := 400000) only [H11, W_drawH, go_sem, simprocAttr]
  have hne : ¬ (l.length : Int) = 0 := by simpa using hl0
  have hne0 : l ≠ [] := by intro h; rw [h] at hne; exact hne rfl
  have hT := hrTests_ok h0'
  have hlen := hT.2.1
  have w0 : IntKind.i64.wrap x = x := wrap_in (by omega) (by omega)
  have w1 : IntKind.i64.wrap y = y := wrap_in (by omega) (by omega)
  have hm : x.tmod (l.length : Int) = x % (l.length : Int) := Int.tmod_eq_emod_of_nonneg hx.1
  have hj0 := Int.emod_nonneg x hne
  have hj1 := Int.emod_lt_of_pos x (show 0 < (l.length : Int) by omega)
  obtain ⟨j, hj⟩ : ∃ j : Nat, x % (l.length : Int) = (j : Int) := ⟨_, (Int.toNat_of_nonneg hj0).symm⟩
  have hjl : j < l.length := by omega
  obtain ⟨t, ht⟩ : ∃ t, l[j]? = some t := ⟨_, List.getElem?_eq_getElem hjl⟩
  have htm := testsErr_all hT.2.2 t (List.mem_of_getElem? ht)
  have hok := (testErr_ok htm).1
  have hjl' : (j : Int) < (l.length : Int) := by omega
  rw [hj] at hm
  simp (maxSteps := 400000) only [H11, W_drawH, hl0, w0, hm, hne, ht, hjl', go_sem, simprocAttr]
  (first | refine WF_pure (cRate s t) rfl ?_ | refine WDQ_pure (cRate s t) rfl ?_)
  simp (maxSteps := 400000) only [H11, W_drawH, go_sem, simprocAttr]
  have hml := hok.len
  have htw := hok.two
  obtain ⟨l0, tl, hl⟩ : ∃ l0 tl, l = l0 ++ [tl] := ⟨_, _, (List.dropLast_concat_getLast hne0).symm⟩
  have hl1 : l.length = l0.length + 1 := by rw [hl]; simp
  have hlw : IntKind.i64.wrap ((l.length : Int) - 1) = ((l0.length : Nat) : Int) := by
    rw [wrap_in (by omega) (by omega)]; omega
  have hll : ((l0.length : Nat) : Int) ≤ (l.length : Int) := by omega
  have htk : (l.map HrTest.pv).take l0.length = l0.map HrTest.pv := by rw [hl, List.map_append, List.take_left' (by simp)]
  have hfl : (l0.length == l.length) = false := by rw [hl]; simp
  have hadd := look_add (at' := t.kind) (show hrTests s (l0 ++ [tl]) = 0 by rw [← hl]; exact h0')
  rw [← hl] at hadd
  have hmar := (hrCheck_first hT.1).2.2
  have q1 : 0 ≤ s.margin * y := Int.mul_nonneg (by omega) (by omega)
  have q2 : s.margin * y ≤ s.margin * 255 := Int.mul_le_mul_of_nonneg_left (by omega) (by omega)
  have w2 : IntKind.i64.wrap (s.margin * y) = s.margin * y := wrap_in (by omega) (by omega)
  have w3 : IntKind.i64.wrap ((s.margin * y).tdiv 256) = (s.margin * y) / 256 := by
    rw [Int.tdiv_eq_ediv_of_nonneg q1]; exact wrap_in (by omega) (by omega)
  have hcalm : (hrRates s l t.kind).2 = 0 → (hrPromise { s with margin := (s.margin * y) / 256 } l t.kind).2 = 0 ∧ (hrPromise s l t.kind).1 ≤ (hrPromise { s with margin := (s.margin * y) / 256 } l t.kind).1 := by
    intro h
    rw [rates_of.1] at h
    obtain ⟨g1, g2⟩ := look_calm s (m := (s.margin * y) / 256) (by omega) (by omega) h
    obtain ⟨_, _, e3⟩ := look_good h
    obtain ⟨_, _, f3⟩ := look_good g1
    rw [e3, f3]
    exact ⟨rfl, g2⟩
  have hzl := rates_of (s := s) (l := l0) (j := t.kind)
  have hz := rates_of (s := s) (l := l) (j := t.kind)
  cases h2 : decide ((2 : Int) < (t.marks.length : Int))
  case' false => simp (maxSteps := 400000) only [H11, W_drawH, go_sem, simprocAttr]
  case' true =>
    have h2' : 3 ≤ t.marks.length := by simp at h2; omega
    have hne3 : ¬ (t.marks.length : Int) = 0 := by omega
    have hm3 : y.tmod (t.marks.length : Int) = y % (t.marks.length : Int) := Int.tmod_eq_emod_of_nonneg hy.1
    have hi0 := Int.emod_nonneg y hne3
    have hi1 := Int.emod_lt_of_pos y (show 0 < (t.marks.length : Int) by omega)
    obtain ⟨i, hi⟩ : ∃ i : Nat, y % (t.marks.length : Int) = (i : Int) := ⟨_, (Int.toNat_of_nonneg hi0).symm⟩
    rw [hi] at hm3
    simp (maxSteps := 400000) only [H11, W_drawH, w1, hne3, hm3, go_sem, simprocAttr]
    (first | refine WF_pure (cRefWithout t i (by omega) htw hml) rfl ?_ | refine WDQ_pure (cRefWithout t i (by omega) htw hml) rfl ?_)
    simp (maxSteps := 400000) only [H11, W_drawH, go_sem, simprocAttr]
    (first | refine WF_pure (cRate s (wo t i)) rfl ?_ | refine WDQ_pure (cRate s (wo t i)) rfl ?_)
    simp (maxSteps := 400000) only [H11, W_drawH, go_sem, simprocAttr]
    have hwo := wo_ok hok (i := i) h2'
    have hkw : (wo t i).kind = t.kind := rfl
    have hww := testErr_of hwo (show 0 ≤ (wo t i).kind ∧ (wo t i).kind < (s.kinds.length : Int) from (testErr_ok htm).2)
    cases hp : poss t
    case' false => simp (maxSteps := 400000) only [H11, W_drawH, rateR_down hT.1 htm hp, go_sem, simprocAttr]
    case' true =>
      have hr := rate_wo hok (i := i) h2' hp
      have d1 : decide ((hrRate t).1.lo < (hrRate (wo t i)).1.lo) = false := by simp; omega
      have d2 : decide ((hrRate (wo t i)).1.hi < (hrRate t).1.hi) = false := by simp; omega
      simp (maxSteps := 400000) only [H11, W_drawH, rateR_good hT.1 htm hp, rateR_good hT.1 hww hr.1, d1, d2, go_sem, simprocAttr]
  all_goals
    simp (maxSteps := 400000) only [H11, W_drawH, hlw, hll, htk, hfl, go_sem, simprocAttr]
    (first | refine WF_pure (cRates s l0 t.kind) rfl ?_ | refine WDQ_pure (cRates s l0 t.kind) rfl ?_)
    simp (maxSteps := 400000) only [H11, W_drawH, go_sem, simprocAttr]
    (first | refine WF_pure (cRates s l t.kind) rfl ?_ | refine WDQ_pure (cRates s l t.kind) rfl ?_)
    simp (maxSteps := 400000) only [H11, W_drawH, hlw, hll, htk, hfl, go_sem, simprocAttr]
    (first | refine WF_pure (cPromise s l0 t.kind) rfl ?_ | refine WDQ_pure (cPromise s l0 t.kind) rfl ?_)
    simp (maxSteps := 400000) only [H11, W_drawH, go_sem, simprocAttr]
    (first | refine WF_pure (cPromise s l t.kind) rfl ?_ | refine WDQ_pure (cPromise s l t.kind) rfl ?_)
    simp (maxSteps := 400000) only [H11, W_drawH, go_sem, simprocAttr]
    by_cases hlk : (hrLook s l0 t.kind).2 = 0
    · obtain ⟨g0, g1, g2⟩ := hadd hlk
      obtain ⟨e1, _, e3⟩ := look_good hlk
      obtain ⟨f1, _, f3⟩ := look_good g0
      have a1 := g1.1
      have a2 := g1.2
      have hc := hcalm (by rw [f1])
      rw [f3] at hc
      have d1 : decide ((hrLook s l0 t.kind).1.rates.lo < (hrLook s l t.kind).1.rates.lo) = false := by simp; omega
      have d2 : decide ((hrLook s l t.kind).1.rates.hi < (hrLook s l0 t.kind).1.rates.hi) = false := by simp; omega
      have d3 : decide ((hrLook s l0 t.kind).1.promise < (hrLook s l t.kind).1.promise) = false := by simp; omega
      have d4 : decide ((hrLook s l t.kind).1.promise ≤ (hrPromise { s with margin := (s.margin * y) / 256 } l t.kind).1) = true := by simpa using hc.2
      simp (maxSteps := 400000) only [H11, W_drawH, e1, e3, f1, f3, d1, d2, d3, w1, w2, w3, go_sem, simprocAttr]
      (first | refine WF_pure (cPromise { s with margin := (s.margin * y) / 256 } l t.kind) rfl ?_ | refine WDQ_pure (cPromise { s with margin := (s.margin * y) / 256 } l t.kind) rfl ?_)
      simp (maxSteps := 400000) only [H11, W_drawH, e1, e3, f1, f3, hc.1, d4, go_sem, simprocAttr]
      (first | refine WF_pure (cAwake) rfl ?_ | refine WDQ_pure (cAwake) rfl ?_)
      simp (maxSteps := 400000) only [H11, W_drawH, go_sem, simprocAttr]
    · have d0 : ((hrRates s l0 t.kind).2 == 0) = false := by rw [hzl.1]; simpa using hlk
      simp (maxSteps := 400000) only [H11, W_drawH, d0, w1, w2, w3, go_sem, simprocAttr]
      (first | refine WF_pure (cPromise { s with margin := (s.margin * y) / 256 } l t.kind) rfl ?_ | refine WDQ_pure (cPromise { s with margin := (s.margin * y) / 256 } l t.kind) rfl ?_)
      by_cases hlq : (hrLook s l t.kind).2 = 0
      · obtain ⟨f1, _, f3⟩ := look_good hlq
        have hc := hcalm (by rw [f1])
        rw [f3] at hc
        have d4 : decide ((hrLook s l t.kind).1.promise ≤ (hrPromise { s with margin := (s.margin * y) / 256 } l t.kind).1) = true := by simpa using hc.2
        simp (maxSteps := 400000) only [H11, W_drawH, f1, f3, hc.1, d4, go_sem, simprocAttr]
        (first | refine WF_pure (cAwake) rfl ?_ | refine WDQ_pure (cAwake) rfl ?_)
        simp (maxSteps := 400000) only [H11, W_drawH, go_sem, simprocAttr]
      · have d5 : ((hrRates s l t.kind).2 != 0) = true := by rw [hz.1]; simpa using hlq
        simp (maxSteps := 400000) only [H11, W_drawH, d5, go_sem, simprocAttr]
        (first | refine WF_pure (cAwake) rfl ?_ | refine WDQ_pure (cAwake) rfl ?_)
        simp (maxSteps := 400000) only [H11, W_drawH, go_sem, simprocAttr]
end Abs
end Go.Proofs.YtdellinghbppgaaGreatDoor
