/-
  PLAIN FACTS: marks that a truth explains; a mark left out; one more test; a smaller margin. No conditions but those in the theorems' heads.
-/
import Derived.Test.YtdellinghbppgaaGreatDoorHrKept
namespace Go.Proofs.YtdellinghbppgaaGreatDoor
namespace Abs
set_option linter.unusedSimpArgs false
set_option linter.unusedVariables false
set_option maxRecDepth 4000

theorem falls_of_sorted : ∀ (l : List HrMark) (last : Int), (∀ m, m ∈ l → last < m.minute) → (l.Pairwise fun a b => a.minute < b.minute) → fallsGo last l = false
  | [], _, _, _ => rfl
  | m :: r, last, h1, h2 => by
    rw [List.pairwise_cons] at h2
    rw [fallsGo, falls_of_sorted r m.minute h2.1 h2.2]
    have := h1 m (by simp)
    simp; omega
theorem testErr_of {nk : Int} {t : HrTest} (hok : TestOk t) (hk : 0 ≤ t.kind ∧ t.kind < nk) : hrTestErr nk t = 0 := by
  have h1 : gIn t.kind 0 (nk - 1) = true := by simp [gIn]; omega
  have h2 : gIn (t.marks.length : Int) 2 10 = true := by have := hok.len; have := hok.two; simp [gIn]; omega
  have h3 : gIn t.error 0 10000 = true := by have := hok.err; simp [gIn]; omega
  have h4 : t.marks.all markIn = true := by
    rw [List.all_eq_true]; intro m hm
    have := hok.all m hm
    simp [markIn, gIn]; omega
  have h5 : fallsGo (-1) t.marks = false := falls_of_sorted _ _ (fun m hm => by have := hok.all m hm; omega) hok.sorted
  unfold hrTestErr
  rw [if_pos h1, if_pos h2, if_pos h3, if_pos h4, h5]; rfl
theorem prs_sub {α : Type} {a b : List α} (h : a.Sublist b) : ∀ q, q ∈ prs a → q ∈ prs b := by
  induction h with
  | slnil => intro q h; exact h
  | cons x h ih => intro q hq; rw [prs, List.mem_append]; exact .inr (ih q hq)
  | cons_cons x h ih =>
    intro q hq
    rw [prs, List.mem_append] at hq ⊢
    rcases hq with hq | hq
    · obtain ⟨y, hy, rfl⟩ := List.mem_map.1 hq
      exact .inl (List.mem_map.2 ⟨y, h.subset hy, rfl⟩)
    · exact .inr (ih q hq)
theorem prs_mem {α : Type} : ∀ (l : List α) (q : α × α), q ∈ prs l → q.1 ∈ l ∧ q.2 ∈ l
  | [], _, h => by cases h
  | x :: r, q, h => by
    rw [prs, List.mem_append, List.mem_map] at h
    rcases h with ⟨y, hy, rfl⟩ | h
    · exact ⟨by simp, by simp [hy]⟩
    · have := prs_mem r q h; exact ⟨by simp [this.1], by simp [this.2]⟩
theorem pairL_wo {t : HrTest} {i : Nat} : ∀ q, q ∈ pairL (wo t i) → q ∈ pairL t := by
  intro q h
  obtain ⟨p, hp, rfl⟩ := (mem_pairL _ _).1 h
  exact (mem_pairL _ _).2 ⟨p, prs_sub (List.eraseIdx_sublist ..) p hp, rfl⟩

/-! ends of a rate -/
theorem mx0_le {a b : Int} (h : a ≤ b) (hb : 0 ≤ b) : mx0 a ≤ b := by unfold mx0; split <;> omega
theorem le_mx0 {a b : Int} (h : a ≤ b) : a ≤ mx0 b := by unfold mx0; split <;> omega
theorem down_mono {f g : Frac} (hf : 0 < f.below) (hg : 0 < g.below) (h : f.le g) : f.down ≤ g.down := by
  refine (Frac.down_le hg _).2 ?_
  have a1 : f.down * f.below ≤ f.top := (Frac.down_le hf _).1 (Int.le_refl _)
  have b1 : Frac.le ⟨f.down, 1⟩ f := (Frac.int_le _ _).2 a1
  have := Frac.le_trans Int.one_pos hf hg b1 h
  exact (Frac.int_le _ _).1 this
theorem up_mono {f g : Frac} (hf : 0 < f.below) (hg : 0 < g.below) (h : f.le g) : f.up ≤ g.up := by
  refine (Frac.up_le hf _).2 ?_
  have a1 : g.top ≤ g.up * g.below := (Frac.up_le hg _).1 (Int.le_refl _)
  have b1 : Frac.le g ⟨g.up, 1⟩ := (Frac.le_int _ _).2 a1
  have := Frac.le_trans hf hg Int.one_pos h b1
  exact (Frac.le_int _ _).1 this
theorem mx0_mono {a b : Int} (h : a ≤ b) : mx0 a ≤ mx0 b := by unfold mx0; split <;> split <;> omega
theorem rate_wo {t : HrTest} (hok : TestOk t) {i : Nat} (h3 : 3 ≤ t.marks.length) (hp : poss t = true) :
    poss (wo t i) = true ∧ (hrRate (wo t i)).1.lo ≤ (hrRate t).1.lo ∧ (hrRate t).1.hi ≤ (hrRate (wo t i)).1.hi := by
  have hw := wo_ok hok (i := i) h3
  refine ⟨(poss_iff hw).2 fun p h1 q h2 => (poss_iff hok).1 hp p (pairL_wo p h1) q (pairL_wo q h2), ?_, ?_⟩
  · obtain ⟨⟨⟨p, hp, e1⟩, _⟩, _⟩ := rateF_best hw
    have h := (rateF_best hok).1.2 p (pairL_wo p hp)
    rw [e1] at h
    exact mx0_mono (down_mono (rateF_ok hw).2.2.1 (rateF_ok hok).2.2.1 h)
  · obtain ⟨_, ⟨p, hp, e1⟩, _⟩ := rateF_best hw
    have h := (rateF_best hok).2.2 p (pairL_wo p hp)
    rw [e1] at h
    exact mx0_mono (up_mono (rateF_ok hok).2.2.2 (rateF_ok hw).2.2.2 h)
theorem openS_of {s : HrShop} {t : HrTest} (h1 : (hrCheck s).2.2 = 0) (h2 : hrTestErr s.kinds.length t = 0) : hrOpen s [t] = 0 := by
  rw [hrOpen, if_pos h1, testsErr, if_pos h2]; rfl
theorem rateR_good {s : HrShop} {t : HrTest} (h1 : (hrCheck s).2.2 = 0) (h2 : hrTestErr s.kinds.length t = 0) (hp : poss t = true) : hrRateR s t = ((hrRate t).1, 0) := by
  have : hrOpen s [t] = 0 := by rw [hrOpen, if_pos h1, testsErr, if_pos h2]; rfl
  rw [hrRateR, if_pos this, if_pos hp]
theorem rateR_down {s : HrShop} {t : HrTest} (h1 : (hrCheck s).2.2 = 0) (h2 : hrTestErr s.kinds.length t = 0) (hp : poss t = false) : hrRateR s t = (⟨0, 0⟩, 9) := by
  have : hrOpen s [t] = 0 := by rw [hrOpen, if_pos h1, testsErr, if_pos h2]; rfl
  rw [hrRateR, if_pos this, if_neg (by rw [hp]; decide)]

/-! a truth -/
/-- the mark is what scales show of a candle of the weight all / 60 that burns at the rate -/
def Weighs (all rate e : Int) (m : HrMark) : Prop := all - rate * m.minute - 60 * e ≤ 60 * m.weight ∧ 60 * m.weight ≤ all - rate * m.minute + 60 * e
theorem weighs_pair {all rate e : Int} {t : HrTest} (he : t.error = e) (h : ∀ m, m ∈ t.marks → Weighs all rate e m) : ∀ q, q ∈ pairL t → q.1.le ⟨rate, 1⟩ ∧ Frac.le ⟨rate, 1⟩ q.2 := by
  subst he
  intro q hq
  obtain ⟨p, hp, rfl⟩ := (mem_pairL _ _).1 hq
  have hm := prs_mem _ _ hp
  have h1 := h _ hm.1
  have h2 := h _ hm.2
  rw [Frac.le_int, Frac.int_le]
  simp only [fracs, Int.mul_sub]
  unfold Weighs at h1 h2
  omega
theorem weighs_poss {all rate e : Int} {t : HrTest} (hok : TestOk t) (he : t.error = e) (h : ∀ m, m ∈ t.marks → Weighs all rate e m) : poss t = true := by
  refine (poss_iff hok).2 fun p hp q hq => ?_
  exact Frac.le_trans (pairL_ok hok p hp).2.2.1 Int.one_pos (pairL_ok hok q hq).2.2.2 (weighs_pair he h p hp).1 (weighs_pair he h q hq).2
theorem weighs_rate {all rate e : Int} {t : HrTest} (hok : TestOk t) (he : t.error = e) (h : ∀ m, m ∈ t.marks → Weighs all rate e m) (hr : 0 ≤ rate) :
    (hrRate t).1.lo ≤ rate ∧ rate ≤ (hrRate t).1.hi := by
  obtain ⟨⟨⟨p, hp, e1⟩, _⟩, ⟨q, hq, e2⟩, _⟩ := rateF_best hok
  have h1 := (weighs_pair he h p hp).1
  have h2 := (weighs_pair he h q hq).2
  rw [e1] at h1
  rw [e2] at h2
  have a1 := down_mono (g := ⟨rate, 1⟩) (rateF_ok hok).2.2.1 Int.one_pos h1
  have a2 := up_mono (f := ⟨rate, 1⟩) Int.one_pos (rateF_ok hok).2.2.2 h2
  have b1 : Frac.down ⟨rate, 1⟩ = rate := by simp [Frac.down]
  have b2 : Frac.up ⟨rate, 1⟩ = rate := by simp [Frac.up]
  rw [b1] at a1
  rw [b2] at a2
  exact ⟨mx0_le a1 hr, le_mx0 a2⟩

/-! one more test; a smaller margin -/
theorem lookGo_append (at' : Int) (t : HrTest) : ∀ (l : List HrTest) (r : Span), lookGo at' r (l ++ [t]) = (if t.kind = at' ∧ poss t = true then lookStep (lookGo at' r l) (hrRate t).1 else lookGo at' r l)
  | [], r => by simp [lookGo]
  | x :: l, r => by rw [List.cons_append, lookGo, lookGo, lookGo_append at' t l]
/-- a wider range -/
def Wider (q p : Span) : Prop := q.lo ≤ p.lo ∧ p.hi ≤ q.hi
theorem lookStep_wider {r q : Span} (h : 0 ≤ r.lo) : Wider (lookStep r q) r := by
  unfold lookStep Wider
  rw [if_neg (by omega)]
  dsimp only
  constructor <;> split <;> omega
theorem look_more {s : HrShop} {l : List HrTest} {t : HrTest} {at' : Int} (h : 0 ≤ (lookRates s l at').lo) : Wider (lookRates s (l ++ [t]) at') (lookRates s l at') := by
  unfold lookRates at h ⊢
  rw [lookGo_append]
  split
  · exact lookStep_wider h
  · exact ⟨Int.le_refl _, Int.le_refl _⟩
theorem widen_lo (m : Int) (r : Span) (n : Int) : n ≤ (widen m r).lo ↔ n * 1000 ≤ r.lo * (1000 - m) := Frac.down_le (f := ⟨r.lo * (1000 - m), 1000⟩) (by show (0:Int) < 1000; decide) n
theorem widen_hi (m : Int) (r : Span) (n : Int) : (widen m r).hi ≤ n ↔ r.hi * (1000 + m) ≤ n * 1000 := Frac.up_le (f := ⟨r.hi * (1000 + m), 1000⟩) (by show (0:Int) < 1000; decide) n
theorem widen_wider {m : Int} {q p : Span} (hm : 0 ≤ m ∧ m ≤ 500) (h : Wider q p) : Wider (widen m q) (widen m p) := by
  constructor
  · rw [widen_lo]
    have h1 := (widen_lo m q _).1 (Int.le_refl _)
    have h2 : q.lo * (1000 - m) ≤ p.lo * (1000 - m) := Int.mul_le_mul_of_nonneg_right h.1 (by omega)
    omega
  · rw [widen_hi]
    have h1 := (widen_hi m q _).1 (Int.le_refl _)
    have h2 : p.hi * (1000 + m) ≤ q.hi * (1000 + m) := Int.mul_le_mul_of_nonneg_right h.2 (by omega)
    omega
theorem widen_calm {m n : Int} {p : Span} (hn : 0 ≤ n) (h : n ≤ m) (hp : 0 ≤ p.hi) : (widen n p).hi ≤ (widen m p).hi := by
  rw [widen_hi]
  have h1 := (widen_hi m p _).1 (Int.le_refl _)
  have h2 : p.hi * (1000 + n) ≤ p.hi * (1000 + m) := Int.mul_le_mul_of_nonneg_left (by omega) hp
  omega
theorem widen_zero {m : Int} {p : Span} (hm : 0 ≤ m) (hp : 0 ≤ p.hi) : (widen m p).hi = 0 ↔ p.hi = 0 := by
  have h1 := widen_hi m p 0
  have h3 := widen_hi m p (-1)
  rw [Int.zero_mul] at h1
  rw [show (-1 : Int) * 1000 = -1000 from rfl] at h3
  have h2 : p.hi * 1000 ≤ p.hi * (1000 + m) := Int.mul_le_mul_of_nonneg_left (by omega) hp
  constructor
  · intro h; have := h1.1 (by omega); omega
  · intro h
    rw [h] at h1 h3
    rw [Int.zero_mul] at h1 h3
    have := h1.2 (Int.le_refl _)
    have : ¬ (widen m p).hi ≤ -1 := fun hc => by have := h3.1 hc; omega
    omega
theorem promise_anti {x y : HrK} (hx : HrKOk x) (hy : HrKOk y) (hk : x.k = y.k) (h : x.rates.hi ≤ y.rates.hi) : y.promise ≤ x.promise := by
  obtain ⟨a1, a2, a3, a4⟩ := promise_facts hx
  obtain ⟨b1, b2, b3, _⟩ := promise_facts hy
  apply Classical.byContradiction; intro hc
  have h4 := a4 (by omega)
  have h5 : (x.promise + 1) * x.rates.hi ≤ y.promise * y.rates.hi := Int.mul_le_mul (by omega) h (by have := hx.pos; omega) (by omega)
  rw [hk] at h4
  rw [Int.mul_comm] at h4
  omega
/-- the kind is there, and has rates -/
theorem hrLook_good {s : HrShop} {l : List HrTest} {at' : Int} {k : HrKind} (h1 : hrTests s l = 0) (h2 : gIn at' 0 ((s.kinds.length : Int) - 1) = true) (h3 : s.kinds[at'.toNat]? = some k)
    (h4 : 0 ≤ (lookRates s l at').lo) (h5 : (widen s.margin (lookRates s l at')).hi ≠ 0) : hrLook s l at' = (⟨k, widen s.margin (lookRates s l at')⟩, 0) := by
  rw [hrLook, if_pos h1]
  simp only [h2, if_true, h3]
  rw [if_neg (by omega), if_neg h5]
theorem lookRates_O {s : HrShop} {l : List HrTest} {at' : Int} (h : hrTests s l = 0) : RatesO (lookRates s l at') := lookGo_O (hrTests_ok h).2.2 (.inl rfl)
theorem look_add {s : HrShop} {l : List HrTest} {t : HrTest} {at' : Int} (ht : hrTests s (l ++ [t]) = 0) (h : (hrLook s l at').2 = 0) :
    (hrLook s (l ++ [t]) at').2 = 0 ∧ Wider (hrLook s (l ++ [t]) at').1.rates (hrLook s l at').1.rates ∧ (hrLook s (l ++ [t]) at').1.promise ≤ (hrLook s l at').1.promise := by
  obtain ⟨hx, h1, h2, h3, h4, h5⟩ := hrLook_ok h
  have hm := (hrCheck_first (hrTests_ok h1).1).2.2
  have hw := look_more (t := t) h5
  have hO := lookRates_O (at' := at') ht
  have hO1 := (lookRates_O (at' := at') h1).resolve_left (by intro e; rw [e] at h5; exact absurd h5 (by decide))
  have hlo : 0 ≤ (lookRates s (l ++ [t]) at').lo := by
    unfold lookRates at h5 ⊢
    rw [lookGo_append]
    split
    · rename_i hc
      have hok := (testErr_ok (testsErr_all (hrTests_ok ht).2.2 t (by simp))).1
      have := (hrRate_le hok).1
      unfold lookStep
      rw [if_neg (by omega)]
      dsimp only; split <;> omega
    · exact h5
  have hO2 := hO.resolve_left (by intro e; rw [e] at hlo; exact absurd hlo (by decide))
  have hww := widen_wider hm hw
  have hpos := hx.pos
  have hne : (widen s.margin (lookRates s (l ++ [t]) at')).hi ≠ 0 := by
    have := hww.2; rw [h4] at hpos; omega
  have hg := hrLook_good ht h2 h3 hlo hne
  have hz : (hrLook s (l ++ [t]) at').2 = 0 := by rw [hg]
  have hy := (hrLook_ok hz).1
  refine ⟨hz, ?_, ?_⟩
  · rw [hg, h4]; exact hww
  · refine promise_anti hx hy (by rw [hg]) ?_
    rw [hg, h4]; exact hww.2
theorem check_calm (s : HrShop) {m : Int} (h : 0 ≤ m) (hm : m ≤ s.margin) (hc : (hrCheck s).2.2 = 0) : (hrCheck { s with margin := m }).2.2 = 0 := by
  have h0 := (hrCheck_first hc).2.2
  have e1 : gIn s.margin 0 500 = true := by simp [gIn]; omega
  have e2 : gIn m 0 500 = true := by simp [gIn]; omega
  unfold hrCheck at hc ⊢
  simp only [e1, e2] at hc ⊢
  exact hc
theorem tests_calm (s : HrShop) {m : Int} (h : 0 ≤ m) (hm : m ≤ s.margin) {l : List HrTest} (ht : hrTests s l = 0) : hrTests { s with margin := m } l = 0 := by
  have h1 := hrTests_ok ht
  rw [hrTests, if_pos (check_calm s h hm h1.1), if_neg (by omega)]
  exact h1.2.2
theorem look_calm (s : HrShop) {m : Int} (hm0 : 0 ≤ m) (hm : m ≤ s.margin) {l : List HrTest} {at' : Int} (h : (hrLook s l at').2 = 0) :
    (hrLook { s with margin := m } l at').2 = 0 ∧ (hrLook s l at').1.promise ≤ (hrLook { s with margin := m } l at').1.promise := by
  obtain ⟨hx, h1, h2, h3, h4, h5⟩ := hrLook_ok h
  have hO := (lookRates_O (at' := at') h1).resolve_left (by intro e; rw [e] at h5; exact absurd h5 (by decide))
  have hpos := hx.pos
  rw [h4] at hpos
  have hne : (widen s.margin (lookRates s l at')).hi ≠ 0 := by omega
  have hne2 : (widen m (lookRates s l at')).hi ≠ 0 := by
    rw [Ne, widen_zero hm0 (by omega)]
    rw [Ne, widen_zero (by omega) (by omega)] at hne
    exact hne
  have hg := hrLook_good (s := { s with margin := m }) (tests_calm s hm0 hm h1) h2 h3 h5 hne2
  have hz : (hrLook { s with margin := m } l at').2 = 0 := by rw [hg]
  refine ⟨hz, promise_anti (hrLook_ok hz).1 hx (by rw [hg]) ?_⟩
  rw [hg, h4]
  exact widen_calm hm0 hm (show 0 ≤ (lookRates s l at').hi by omega)
end Abs
end Go.Proofs.YtdellinghbppgaaGreatDoor
