/-
  CONTRACTS: the law HourReached. No conditions but those in the theorems' heads.
-/
import Derived.Test.YtdellinghbppgaaGreatDoorHrFact
namespace Go.Proofs.YtdellinghbppgaaGreatDoor
namespace Abs
set_option linter.unusedSimpArgs false
set_option linter.unusedVariables false
set_option maxRecDepth 100000

/-- the rate is one of a truth, as far as these pairs of marks go -/
def allowP (f : Frac) (q : Frac × Frac) : Bool := !(decide (f.top * q.1.below < q.1.top * f.below) || decide (q.2.top * f.below < f.top * q.1.below))
def allowB (t : HrTest) (f : Frac) : Bool := (pairL t).all (allowP f)
theorem pairs_at {e : Int} {a b : HrMark} : fracs e a b = (⟨60 * (a.weight - b.weight - 2 * e), b.minute - a.minute⟩, ⟨60 * (a.weight - b.weight + 2 * e), b.minute - a.minute⟩) := rfl
set_option maxHeartbeats 4000000 in
theorem cAllows (t : HrTest) (f : Frac) (hok : TestOk t) (hf : f.B) : PCall Tryz.prog 36 [t.pv, .int .i64 f.top, .int .i64 f.below] (.bool (allowB t f)) := by
  have hl := hok.len
  have hmk := hok.all
  have he := hok.err
  refine pcall_of_wp draws (fn := Tryz.f36) (n := 75) (rs := [.tmp 6]) (by kernel_rfl) rfl rfl rfl ok36 (Nat.le_of_ble_eq_true rfl) ?_
  simp (maxSteps := 400000) only [go_sem, simprocAttr]
  refine W_loopA [1, 2, 3] (σ := List HrMark × List HrMark) (fun q => t.marks = q.1 ++ q.2 ∧ allowB t f = (pairsGo t.error q.1 q.2).all (allowP f)) (fun q => q.2.length)
    (fun q => [(7, .p (.int .i64 q.1.length))]) (fun _ => [.row 3 [.p t.pv]]) ([], t.marks) ⟨rfl, rfl⟩ ?_ ?_
  · simp (maxSteps := 400000) only [go_sem, simprocAttr]
  rintro ⟨done, rest⟩ ⟨e1, e2⟩
  dsimp only at e1 e2
  cases rest with
  | nil =>
    have hlt : ¬ ((done.length : Int) < (t.marks.length : Int)) := by rw [e1]; simp
    simp (maxSteps := 400000) only [hlt, decide_false, e2, pairsGo, List.all_nil, go_sem, simprocAttr]
  | cons b r =>
    obtain ⟨hx, hlt⟩ := list_at e1
    have hlen := congrArg List.length e1
    simp only [List.length_append, List.length_cons] at hlen
    have hnx : IntKind.i64.wrap ((done.length : Int) + 1) = (((done ++ [b]).length : Nat) : Int) := wrap_add (by omega) (by simp [room]; omega) (by simp)
    have hb := hmk b (by rw [e1]; simp)
    rw [pairsGo, List.all_append, List.all_map] at e2
    simp (maxSteps := 400000) only [hlt, decide_true, go_sem, simprocAttr]
    refine W_loopA [1, 2, 3, 7] (σ := List HrMark × List HrMark) (fun q => done = q.1 ++ q.2 ∧ allowB t f = (q.2.all (fun a => allowP f (fracs t.error a b)) && (pairsGo t.error (done ++ [b]) r).all (allowP f))) (fun q => q.2.length)
      (fun q => [(8, .p (.int .i64 q.1.length))]) (fun _ => [.row 3 [.p t.pv]]) ([], done) ⟨rfl, e2⟩ ?_ ?_
    · simp (maxSteps := 400000) only [go_sem, simprocAttr]
    rintro ⟨d2, r2⟩ ⟨f1, f2⟩
    dsimp only at f1 f2
    cases r2 with
    | nil =>
      have hlt2 : ¬ ((d2.length : Int) < (done.length : Int)) := by rw [f1]; simp
      simp (maxSteps := 400000) only [hlt2, decide_false, go_sem, simprocAttr]
      refine WQ_headA (done ++ [b], r) ⟨by rw [e1]; simp, by rw [f2, List.all_nil, Bool.true_and]⟩ (Nat.lt_succ_self _) ?_
      simp (maxSteps := 400000) only [hnx, go_sem, simprocAttr]
    | cons a r2 =>
      obtain ⟨hxa, hlta⟩ := list_at f1
      have hlen2 := congrArg List.length f1
      simp only [List.length_append, List.length_cons] at hlen2
      have hnx2 : IntKind.i64.wrap ((d2.length : Int) + 1) = (((d2 ++ [a]).length : Nat) : Int) := wrap_add (by omega) (by simp [room]; omega) (by simp)
      have ha := hmk a (by rw [e1, f1]; simp)
      have hxa' : t.marks[d2.length]? = some a := by rw [e1, f1, List.append_assoc]; simp
      have hlta' : (d2.length : Int) < (t.marks.length : Int) := by omega
      obtain ⟨b1, b2, b3, b4⟩ := hf
      have hmn : 0 < b.minute - a.minute := by
        have := hok.sorted
        rw [e1, List.pairwise_append] at this
        have := this.2.2 a (by rw [f1]; simp) b (by simp)
        omega
      have w1 : IntKind.i64.wrap (a.weight - b.weight) = a.weight - b.weight := wrap_in (by omega) (by omega)
      have w2 : IntKind.i64.wrap (b.minute - a.minute) = b.minute - a.minute := wrap_in (by omega) (by omega)
      have w3 : IntKind.i64.wrap (2 * t.error) = 2 * t.error := wrap_in (by omega) (by omega)
      have w4 : IntKind.i64.wrap (a.weight - b.weight - 2 * t.error) = a.weight - b.weight - 2 * t.error := wrap_in (by omega) (by omega)
      have w5 : IntKind.i64.wrap (60 * (a.weight - b.weight - 2 * t.error)) = 60 * (a.weight - b.weight - 2 * t.error) := wrap_in (by omega) (by omega)
      have w6 : IntKind.i64.wrap (a.weight - b.weight + 2 * t.error) = a.weight - b.weight + 2 * t.error := wrap_in (by omega) (by omega)
      have w7 : IntKind.i64.wrap (60 * (a.weight - b.weight + 2 * t.error)) = 60 * (a.weight - b.weight + 2 * t.error) := wrap_in (by omega) (by omega)
      have m1 := mulB (a := 60 * (a.weight - b.weight - 2 * t.error)) (b := f.below) (by omega) (by omega) (by omega) (by omega)
      have m2 := mulB (a := f.top) (b := b.minute - a.minute) (by omega) (by omega) (by omega) (by omega)
      have m3 := mulB (a := 60 * (a.weight - b.weight + 2 * t.error)) (b := f.below) (by omega) (by omega) (by omega) (by omega)
      have w8 : IntKind.i64.wrap (60 * (a.weight - b.weight - 2 * t.error) * f.below) = 60 * (a.weight - b.weight - 2 * t.error) * f.below := wrap_in (by omega) (by omega)
      have w9 : IntKind.i64.wrap (f.top * (b.minute - a.minute)) = f.top * (b.minute - a.minute) := wrap_in (by omega) (by omega)
      have w10 : IntKind.i64.wrap (60 * (a.weight - b.weight + 2 * t.error) * f.below) = 60 * (a.weight - b.weight + 2 * t.error) * f.below := wrap_in (by omega) (by omega)
      rw [List.all_cons, Bool.and_assoc] at f2
      have hap : allowP f (fracs t.error a b) = !(decide (f.top * (b.minute - a.minute) < 60 * (a.weight - b.weight - 2 * t.error) * f.below) || decide (60 * (a.weight - b.weight + 2 * t.error) * f.below < f.top * (b.minute - a.minute))) := rfl
      rw [hap] at f2
      simp (maxSteps := 400000) only [hlta, decide_true, hxa', hx, hlta', hlt, w1, w2, w3, w4, w5, w6, w7, w8, w9, w10, go_sem, simprocAttr]
      cases c1 : decide (f.top * (b.minute - a.minute) < 60 * (a.weight - b.weight - 2 * t.error) * f.below)
      · cases c2 : decide (60 * (a.weight - b.weight + 2 * t.error) * f.below < f.top * (b.minute - a.minute))
        · rw [c1, c2] at f2
          simp (maxSteps := 400000) only [w3, w6, w7, w9, w10, c2, go_sem, simprocAttr]
          refine WQ_headA (d2 ++ [a], r2) ⟨by rw [f1]; simp, by simpa using f2⟩ (Nat.lt_succ_self _) ?_
          simp (maxSteps := 400000) only [hnx2, go_sem, simprocAttr]
        · rw [c1, c2] at f2
          simp (maxSteps := 400000) only [w3, w6, w7, w9, w10, c2, go_sem, simprocAttr]
          simp [f2]
      · rw [c1] at f2
        simp (maxSteps := 400000) only [f2, Bool.true_or, Bool.not_true, Bool.false_and, go_sem, simprocAttr]

/-! the ends of a rate are reached -/
def lowP (t : HrTest) (r : Span) (q : Frac × Frac) : Bool := allowB t q.1 && decide (r.lo * q.1.below ≤ q.1.top) && decide (q.1.top < (r.lo + 1) * q.1.below)
def highP (t : HrTest) (r : Span) (q : Frac × Frac) : Bool := allowB t q.2 && decide (q.2.top ≤ r.hi * q.1.below) && decide ((r.hi - 1) * q.1.below < q.2.top)
theorem pairL_below {t : HrTest} {q : Frac × Frac} (h : q ∈ pairL t) : q.2.below = q.1.below := by
  obtain ⟨p, _, rfl⟩ := (mem_pairL _ _).1 h
  rfl
theorem allow_mid {t : HrTest} {f : Frac} (h1 : ∀ q, q ∈ pairL t → q.1.le f) (h2 : ∀ q, q ∈ pairL t → f.le q.2) : allowB t f = true := by
  rw [allowB, List.all_eq_true]
  intro q hq
  have a := h1 q hq
  have b := h2 q hq
  unfold Frac.le at a b
  rw [pairL_below hq] at b
  rw [allowP, Bool.not_eq_true', Bool.or_eq_false_iff]
  exact ⟨by simpa using a, by simpa using b⟩
theorem reach_ok {t : HrTest} (hok : TestOk t) (hp : poss t = true) :
    (((hrRate t).1.lo == 0) || (pairL t).any (lowP t (hrRate t).1)) = true ∧ (((hrRate t).1.hi == 0) || (pairL t).any (highP t (hrRate t).1)) = true := by
  have hb := rateF_best hok
  have hB := pairL_ok hok
  have hr := rateF_ok hok
  have hle : (rateF t).1.le (rateF t).2 := by
    rw [poss, hrRate] at hp
    dsimp only at hp
    rw [Bool.not_eq_true', Frac.lt_false] at hp
    exact hp
  obtain ⟨⟨⟨p, hp1, e1⟩, h1⟩, ⟨q, hq1, e2⟩, h2⟩ := hb
  have a1 : allowB t (rateF t).1 = true := allow_mid h1 fun x hx => Frac.le_trans hr.2.2.1 hr.2.2.2 (hB x hx).2.2.2 hle (h2 x hx)
  have a2 : allowB t (rateF t).2 = true := allow_mid (fun x hx => Frac.le_trans (hB x hx).2.2.1 hr.2.2.1 hr.2.2.2 (h1 x hx) hle) h2
  constructor
  · rw [Bool.or_eq_true, List.any_eq_true]
    by_cases hz : (hrRate t).1.lo = 0
    · exact .inl (by simpa using hz)
    · refine .inr ⟨p, hp1, ?_⟩
      have hd : (hrRate t).1.lo = (rateF t).1.down := by
        simp only [hrRate, mx0] at hz ⊢
        split
        · rfl
        · rename_i hc; rw [if_neg hc] at hz; exact absurd rfl hz
      have k := Frac.down_le hr.2.2.1
      have k1 := (k _).1 (Int.le_refl _)
      have k2 : ¬ ((rateF t).1.down + 1) * (rateF t).1.below ≤ (rateF t).1.top := fun h => by have := (k _).2 h; omega
      rw [lowP, e1, a1, hd]
      simp only [Bool.true_and, Bool.and_eq_true, decide_eq_true_eq]
      exact ⟨k1, by omega⟩
  · rw [Bool.or_eq_true, List.any_eq_true]
    by_cases hz : (hrRate t).1.hi = 0
    · exact .inl (by simpa using hz)
    · refine .inr ⟨q, hq1, ?_⟩
      have hd : (hrRate t).1.hi = (rateF t).2.up := by
        simp only [hrRate, mx0] at hz ⊢
        split
        · rfl
        · rename_i hc; rw [if_neg hc] at hz; exact absurd rfl hz
      have k := Frac.up_le hr.2.2.2
      have k1 := (k _).1 (Int.le_refl _)
      have k2 : ¬ (rateF t).2.top ≤ ((rateF t).2.up - 1) * (rateF t).2.below := fun h => by have := (k _).2 h; omega
      rw [highP, ← pairL_below hq1, e2, a2, hd]
      simp only [Bool.true_and, Bool.and_eq_true, decide_eq_true_eq]
      exact ⟨k1, by omega⟩
theorem five (x a c d : Bool) : (x = true) ∨ (x = false ∧ a = false) ∨ (x = false ∧ a = true ∧ c = false) ∨ (x = false ∧ a = true ∧ c = true ∧ d = false) ∨ (x = false ∧ a = true ∧ c = true ∧ d = true) := by
  revert x a c d; decide
set_option maxHeartbeats 8000000 in
theorem lHourReached (s : HrShop) (t : HrTest) : PCall Tryz.prog 7 [s.pv, t.pv] (.bool true) := by
  refine pcall_of_wp draws (fn := Tryz.f7) (n := 180) (rs := [.tmp 4]) (by kernel_rfl) rfl rfl rfl ok7 (Nat.le_of_ble_eq_true rfl) ?_
  simp (maxSteps := 400000) only [go_sem, simprocAttr]
  (first | refine WF_pure (cRate s t) rfl ?_ | refine WDQ_pure (cRate s t) rfl ?_)
  simp (maxSteps := 400000) only [go_sem, simprocAttr]
  (first | refine WF_pure (cRefTest s t) rfl ?_ | refine WDQ_pure (cRefTest s t) rfl ?_)
  simp (maxSteps := 400000) only [go_sem, simprocAttr]
  cases h0 : (hrOpen s [t] != 0)
  rotate_left
  · have h0' : ¬ hrOpen s [t] = 0 := by simpa using h0
    have hr : hrRateR s t = (⟨0, 0⟩, hrOpen s [t]) := by rw [hrRateR, if_neg h0']
    simp (maxSteps := 400000) only [hr, beq_self_eq_true, go_sem, simprocAttr]
    (first | refine WF_pure (cAwake) rfl ?_ | refine WDQ_pure (cAwake) rfl ?_)
    simp (maxSteps := 400000) only [go_sem, simprocAttr]
  have h0' : hrOpen s [t] = 0 := by simpa using h0
  obtain ⟨hc, ht⟩ := open_ok h0'
  have hok := (testErr_ok ht).1
  cases hp : poss t
  · simp (maxSteps := 400000) only [rateR_down hc ht hp, go_sem, simprocAttr]
    (first | refine WF_pure (cRefPossible t hok) rfl ?_ | refine WDQ_pure (cRefPossible t hok) rfl ?_)
    simp (maxSteps := 400000) only [possR_eq hok, hp, go_sem, simprocAttr]
    (first | refine WF_pure (cAwake) rfl ?_ | refine WDQ_pure (cAwake) rfl ?_)
    simp (maxSteps := 400000) only [go_sem, simprocAttr]
  obtain ⟨hlo, hhi⟩ := reach_ok hok hp
  have hb := hrRate_le hok
  have hord := hrRate_ordered hok hp
  rw [rateR_good hc ht hp]
  generalize (hrRate t).1 = r at hlo hhi hb hord ⊢
  have d1 : decide (r.lo < 0) = false := by simp; omega
  have d2 : decide (r.hi < r.lo) = false := by simp; omega
  have d3 : decide (601200000 < r.hi) = false := by simp; omega
  have hmk := hok.all
  have hl := hok.len
  have he := hok.err
  simp (maxSteps := 400000) only [d1, d2, d3, go_sem, simprocAttr]
  refine W_loopA [3, 5] (σ := List HrMark × List HrMark × Bool × Bool) (fun q => t.marks = q.1 ++ q.2.1 ∧ (q.2.2.1 || (pairsGo t.error q.1 q.2.1).any (lowP t r)) = true ∧ (q.2.2.2 || (pairsGo t.error q.1 q.2.1).any (highP t r)) = true) (fun q => q.2.1.length)
    (fun q => [(8, .p (.bool q.2.2.1)), (9, .p (.bool q.2.2.2)), (10, .p (.int .i64 q.1.length))]) (fun _ => [.row 3 [.p s.pv], .row 3 [.p t.pv], .row 2 [.p r.pv]]) ([], t.marks, r.lo == 0, r.hi == 0) ⟨rfl, hlo, hhi⟩ ?_ ?_
  · simp (maxSteps := 400000) only [go_sem, simprocAttr]
  rintro ⟨done, rest, low, high⟩ ⟨e1, e2, e3⟩
  dsimp only at e1 e2 e3
  cases rest with
  | nil =>
    have hlt : ¬ ((done.length : Int) < (t.marks.length : Int)) := by rw [e1]; simp
    rw [pairsGo, List.any_nil, Bool.or_false] at e2 e3
    simp (maxSteps := 400000) only [hlt, decide_false, e2, e3, go_sem, simprocAttr]
    (first | refine WF_pure (cAwake) rfl ?_ | refine WDQ_pure (cAwake) rfl ?_)
    simp (maxSteps := 400000) only [go_sem, simprocAttr]
  | cons b rst =>
    obtain ⟨hx, hlt⟩ := list_at e1
    have hlen := congrArg List.length e1
    simp only [List.length_append, List.length_cons] at hlen
    have hnx : IntKind.i64.wrap ((done.length : Int) + 1) = (((done ++ [b]).length : Nat) : Int) := wrap_add (by omega) (by simp [room]; omega) (by simp)
    have hbk := hmk b (by rw [e1]; simp)
    rw [pairsGo, List.any_append, List.any_map] at e2 e3
    simp (maxSteps := 400000) only [hlt, decide_true, go_sem, simprocAttr]
    refine W_loopA [3, 5, 10] (σ := List HrMark × List HrMark × Bool × Bool) (fun q => done = q.1 ++ q.2.1 ∧ (q.2.2.1 || (q.2.1.any (fun a => lowP t r (fracs t.error a b)) || (pairsGo t.error (done ++ [b]) rst).any (lowP t r))) = true
        ∧ (q.2.2.2 || (q.2.1.any (fun a => highP t r (fracs t.error a b)) || (pairsGo t.error (done ++ [b]) rst).any (highP t r))) = true) (fun q => q.2.1.length)
      (fun q => [(8, .p (.bool q.2.2.1)), (9, .p (.bool q.2.2.2)), (11, .p (.int .i64 q.1.length))]) (fun _ => [.row 3 [.p s.pv], .row 3 [.p t.pv], .row 2 [.p r.pv]]) ([], done, low, high) ⟨rfl, e2, e3⟩ ?_ ?_
    · simp (maxSteps := 400000) only [go_sem, simprocAttr]
    clear e2 e3
    rintro ⟨d2, r2, low, high⟩ ⟨f1, f2, f3⟩
    dsimp only at f1 f2 f3
    cases r2 with
    | nil =>
      have hlt2 : ¬ ((d2.length : Int) < (done.length : Int)) := by rw [f1]; simp
      rw [List.any_nil, Bool.false_or] at f2 f3
      simp (maxSteps := 400000) only [hlt2, decide_false, go_sem, simprocAttr]
      refine WQ_headA (done ++ [b], rst, low, high) ⟨by rw [e1]; simp, f2, f3⟩ (Nat.lt_succ_self _) ?_
      simp (maxSteps := 400000) only [hnx, go_sem, simprocAttr]
    | cons a r2 =>
      obtain ⟨hxa, hlta⟩ := list_at f1
      have hlen2 := congrArg List.length f1
      simp only [List.length_append, List.length_cons] at hlen2
      have hnx2 : IntKind.i64.wrap ((d2.length : Int) + 1) = (((d2 ++ [a]).length : Nat) : Int) := wrap_add (by omega) (by simp [room]; omega) (by simp)
      have ha := hmk a (by rw [e1, f1]; simp)
      have hxa' : t.marks[d2.length]? = some a := by rw [e1, f1, List.append_assoc]; simp
      have hlta' : (d2.length : Int) < (t.marks.length : Int) := by omega
      have hmn : 0 < b.minute - a.minute := by
        have := hok.sorted
        rw [e1, List.pairwise_append] at this
        have := this.2.2 a (by rw [f1]; simp) b (by simp)
        omega
      have w1 : IntKind.i64.wrap (a.weight - b.weight) = a.weight - b.weight := wrap_in (by omega) (by omega)
      have w2 : IntKind.i64.wrap (b.minute - a.minute) = b.minute - a.minute := wrap_in (by omega) (by omega)
      have w3 : IntKind.i64.wrap (60 * (a.weight - b.weight)) = 60 * (a.weight - b.weight) := wrap_in (by omega) (by omega)
      have w4 : IntKind.i64.wrap (120 * t.error) = 120 * t.error := wrap_in (by omega) (by omega)
      have w5 : IntKind.i64.wrap (60 * (a.weight - b.weight) - 120 * t.error) = 60 * (a.weight - b.weight - 2 * t.error) := by rw [wrap_in (by omega) (by omega)]; omega
      have w6 : IntKind.i64.wrap (60 * (a.weight - b.weight) + 120 * t.error) = 60 * (a.weight - b.weight + 2 * t.error) := by rw [wrap_in (by omega) (by omega)]; omega
      rw [List.any_cons, Bool.or_assoc, ← Bool.or_assoc low] at f2
      rw [List.any_cons, Bool.or_assoc, ← Bool.or_assoc high] at f3
      have hfB : Frac.B ⟨60 * (a.weight - b.weight - 2 * t.error), b.minute - a.minute⟩ := by simp only [Frac.B]; omega
      have hgB : Frac.B ⟨60 * (a.weight - b.weight + 2 * t.error), b.minute - a.minute⟩ := by simp only [Frac.B]; omega
      have eL : lowP t r (fracs t.error a b) = (allowB t ⟨60 * (a.weight - b.weight - 2 * t.error), b.minute - a.minute⟩ && decide (r.lo * (b.minute - a.minute) ≤ 60 * (a.weight - b.weight - 2 * t.error)) && decide (60 * (a.weight - b.weight - 2 * t.error) < (r.lo + 1) * (b.minute - a.minute))) := rfl
      have eH : highP t r (fracs t.error a b) = (allowB t ⟨60 * (a.weight - b.weight + 2 * t.error), b.minute - a.minute⟩ && decide (60 * (a.weight - b.weight + 2 * t.error) ≤ r.hi * (b.minute - a.minute)) && decide ((r.hi - 1) * (b.minute - a.minute) < 60 * (a.weight - b.weight + 2 * t.error))) := rfl
      have cL := cAllows t ⟨60 * (a.weight - b.weight - 2 * t.error), b.minute - a.minute⟩ hok hfB
      have cH := cAllows t ⟨60 * (a.weight - b.weight + 2 * t.error), b.minute - a.minute⟩ hok hgB
      generalize allowB t ⟨60 * (a.weight - b.weight - 2 * t.error), b.minute - a.minute⟩ = AL at eL cL
      generalize allowB t ⟨60 * (a.weight - b.weight + 2 * t.error), b.minute - a.minute⟩ = AH at eH cH
      simp (maxSteps := 400000) only [hlta, decide_true, hxa', hx, hlta', hlt, w1, w2, w3, w4, w5, w6, go_sem, simprocAttr]
      generalize hT : 60 * (a.weight - b.weight - 2 * t.error) = T at eL cL hfB ⊢
      generalize hU : 60 * (a.weight - b.weight + 2 * t.error) = U at eH cH hgB ⊢
      generalize hG : b.minute - a.minute = g at eL eH cL cH hfB hgB hmn ⊢
      have m1 := mulB (a := r.lo) (b := g) (by omega) (by omega) (by omega) (by omega)
      have m2 := mulB (a := r.lo + 1) (b := g) (by omega) (by omega) (by omega) (by omega)
      have m3 := mulB (a := r.hi) (b := g) (by omega) (by omega) (by omega) (by omega)
      have m4 := mulB (a := r.hi - 1) (b := g) (by omega) (by omega) (by omega) (by omega)
      have v1 : IntKind.i64.wrap (r.lo * g) = r.lo * g := wrap_in (by omega) (by omega)
      have v2 : IntKind.i64.wrap (r.lo + 1) = r.lo + 1 := wrap_in (by omega) (by omega)
      have v3 : IntKind.i64.wrap ((r.lo + 1) * g) = (r.lo + 1) * g := wrap_in (by omega) (by omega)
      have v4 : IntKind.i64.wrap (r.hi * g) = r.hi * g := wrap_in (by omega) (by omega)
      have v5 : IntKind.i64.wrap (r.hi - 1) = r.hi - 1 := wrap_in (by omega) (by omega)
      have v6 : IntKind.i64.wrap ((r.hi - 1) * g) = (r.hi - 1) * g := wrap_in (by omega) (by omega)
      dsimp only at cL cH
      rcases five low AL (decide (r.lo * g ≤ T)) (decide (T < (r.lo + 1) * g)) with hL | hL | hL | hL | hL <;>
      rcases five high AH (decide (U ≤ r.hi * g)) (decide ((r.hi - 1) * g < U)) with hH | hH | hH | hH | hH <;>
      ( simp (maxSteps := 400000) only [hL, go_sem, simprocAttr]
        try ((first | refine WF_pure (cL) rfl ?_ | refine WDQ_pure (cL) rfl ?_); simp (maxSteps := 400000) only [hL, v1, v2, v3, go_sem, simprocAttr])
        simp (maxSteps := 400000) only [hH, go_sem, simprocAttr]
        try ((first | refine WF_pure (cH) rfl ?_ | refine WDQ_pure (cH) rfl ?_); simp (maxSteps := 400000) only [hH, v4, v5, v6, go_sem, simprocAttr])
        refine WQ_headA (d2 ++ [a], r2, low || lowP t r (fracs t.error a b), high || highP t r (fracs t.error a b)) ⟨by rw [f1]; simp, f2, f3⟩ (Nat.lt_succ_self _) ?_
        simp (maxSteps := 400000) only [hnx2, eL, eH, hL, hH, go_sem, simprocAttr])
end Abs
end Go.Proofs.YtdellinghbppgaaGreatDoor
