/-
  CONTRACTS: Rate; ref.Possible. No conditions but those in the theorems' heads.
-/
import Derived.Test.YtdellinghbppgaaGreatDoorHrFrac
namespace Go.Proofs.YtdellinghbppgaaGreatDoor
namespace Abs
set_option linter.unusedSimpArgs false
set_option linter.unusedVariables false
set_option maxRecDepth 4000

/-! fractions in order -/
def Frac.le (f g : Frac) : Prop := f.top * g.below ≤ g.top * f.below
theorem Frac.lt_iff (f g : Frac) : f.lt g = true ↔ ¬ g.le f := by
  simp only [Frac.lt, Frac.le, decide_eq_true_eq]; omega
theorem Frac.lt_false (f g : Frac) : f.lt g = false ↔ g.le f := by
  simp only [Frac.lt, Frac.le, decide_eq_false_iff_not]; omega
theorem Frac.le_refl (f : Frac) : f.le f := Int.le_refl _
theorem Frac.le_total (f g : Frac) : f.le g ∨ g.le f := by simp only [Frac.le]; omega
theorem Frac.le_trans {f g h : Frac} (hf : 0 < f.below) (hg : 0 < g.below) (hh : 0 < h.below) (h1 : f.le g) (h2 : g.le h) : f.le h := by
  unfold Frac.le at *
  have e1 : f.top * g.below * h.below ≤ g.top * f.below * h.below := Int.mul_le_mul_of_nonneg_right h1 (Int.le_of_lt hh)
  have e2 : g.top * h.below * f.below ≤ h.top * g.below * f.below := Int.mul_le_mul_of_nonneg_right h2 (Int.le_of_lt hf)
  have e3 : f.top * h.below * g.below ≤ h.top * f.below * g.below := by
    have a1 : f.top * h.below * g.below = f.top * g.below * h.below := by rw [Int.mul_assoc, Int.mul_comm h.below, ← Int.mul_assoc]
    have a2 : g.top * f.below * h.below = g.top * h.below * f.below := by rw [Int.mul_assoc, Int.mul_comm f.below, ← Int.mul_assoc]
    have a3 : h.top * f.below * g.below = h.top * g.below * f.below := by rw [Int.mul_assoc, Int.mul_comm f.below, ← Int.mul_assoc]
    omega
  exact Int.le_of_mul_le_mul_right e3 hg
/-- the fraction is at most a whole number -/
theorem Frac.le_int (f : Frac) (n : Int) : f.le ⟨n, 1⟩ ↔ f.top ≤ n * f.below := by simp [Frac.le]
theorem Frac.int_le (f : Frac) (n : Int) : Frac.le ⟨n, 1⟩ f ↔ n * f.below ≤ f.top := by simp [Frac.le]
theorem Frac.down_le {f : Frac} (hf : 0 < f.below) (n : Int) : n ≤ f.down ↔ n * f.below ≤ f.top := Int.le_ediv_iff_mul_le hf
theorem Frac.up_le {f : Frac} (hf : 0 < f.below) (n : Int) : f.up ≤ n ↔ f.top ≤ n * f.below := by
  unfold Frac.up
  have := Int.le_ediv_iff_mul_le (a := -n) (b := -f.top) hf
  rw [Int.neg_mul] at this
  constructor
  · intro h; have := this.1 (by omega); omega
  · intro h; have := this.2 (by omega); omega

/-! what is kept of a list -/
def Best (l : List (Frac × Frac)) (q : Frac × Frac) : Prop :=
  ((∃ p, p ∈ l ∧ p.1 = q.1) ∧ ∀ p, p ∈ l → p.1.le q.1) ∧ ((∃ p, p ∈ l ∧ p.2 = q.2) ∧ ∀ p, p ∈ l → q.2.le p.2)
theorem keep2_best {l : List (Frac × Frac)} {q p : Frac × Frac} (hl : ∀ x, x ∈ l → PairB x) (hq : Best l q) (hqB : PairB q) (hp : PairB p) : Best (l ++ [p]) (keep2 q p) := by
  have n1 : q.1 ≠ ⟨0, 0⟩ := fun h => by have := hqB.2.2.1; rw [h] at this; exact absurd this (by decide)
  have n2 : q.2 ≠ ⟨0, 0⟩ := fun h => by have := hqB.2.2.2; rw [h] at this; exact absurd this (by decide)
  obtain ⟨⟨⟨x, hx, ex⟩, h1⟩, ⟨y, hy, ey⟩, h2⟩ := hq
  unfold keep2 keepLo keepHi
  simp only [decide_eq_false n1, decide_eq_false n2, Bool.false_or]
  refine ⟨?_, ?_⟩
  · dsimp only
    cases hc : q.1.lt p.1
    · rw [Frac.lt_false] at hc
      refine ⟨⟨x, by simp [hx], ex⟩, fun z hz => ?_⟩
      rcases List.mem_append.1 hz with hz | hz
      · exact h1 z hz
      · rw [List.mem_singleton.1 hz]; exact hc
    · have hc' : q.1.le p.1 := (Frac.le_total _ _).resolve_right (by rw [Frac.lt_iff] at hc; exact hc)
      refine ⟨⟨p, by simp, rfl⟩, fun z hz => ?_⟩
      rcases List.mem_append.1 hz with hz | hz
      · exact Frac.le_trans (hl z hz).2.2.1 hqB.2.2.1 hp.2.2.1 (h1 z hz) hc'
      · rw [List.mem_singleton.1 hz]; exact Frac.le_refl _
  · dsimp only
    cases hc : p.2.lt q.2
    · rw [Frac.lt_false] at hc
      refine ⟨⟨y, by simp [hy], ey⟩, fun z hz => ?_⟩
      rcases List.mem_append.1 hz with hz | hz
      · exact h2 z hz
      · rw [List.mem_singleton.1 hz]; exact hc
    · have hc' : p.2.le q.2 := (Frac.le_total _ _).resolve_right (by rw [Frac.lt_iff] at hc; exact hc)
      refine ⟨⟨p, by simp, rfl⟩, fun z hz => ?_⟩
      rcases List.mem_append.1 hz with hz | hz
      · exact Frac.le_trans hp.2.2.2 hqB.2.2.2 (hl z hz).2.2.2 hc' (h2 z hz)
      · rw [List.mem_singleton.1 hz]; exact Frac.le_refl _
theorem foldl_best : ∀ (r l : List (Frac × Frac)) (q : Frac × Frac), (∀ x, x ∈ l ++ r → PairB x) → Best l q → PairB q → Best (l ++ r) (r.foldl keep2 q)
  | [], l, q, _, h, _ => by simpa using h
  | p :: r, l, q, hb, h, hq => by
    have hp := hb p (by simp)
    have := foldl_best r (l ++ [p]) (keep2 q p) (by simpa using hb) (keep2_best (fun x hx => hb x (by simp [hx])) h hq hp) (keep2_ok (.inr hq) hp)
    simpa using this
theorem rateF_best {t : HrTest} (hok : TestOk t) : Best (pairL t) (rateF t) := by
  have hB := pairL_ok hok
  have hne := pairL_ne hok.two
  unfold rateF
  cases hp : pairL t with
  | nil => exact absurd hp hne
  | cons p r =>
    rw [hp] at hB
    have hpB := hB p (by simp)
    have e : keep2 zero2 p = p := by simp [keep2, keepLo, keepHi, zero2]
    rw [List.foldl_cons, e]
    have := foldl_best r [p] p (by simpa using hB) ⟨⟨⟨p, by simp, rfl⟩, by simp [Frac.le_refl]⟩, ⟨p, by simp, rfl⟩, by simp [Frac.le_refl]⟩ hpB
    simpa using this
/-- the test is possible -/
def poss (t : HrTest) : Bool := (hrRate t).2
theorem poss_iff {t : HrTest} (hok : TestOk t) : poss t = true ↔ ∀ p, p ∈ pairL t → ∀ q, q ∈ pairL t → p.1.le q.2 := by
  have hb := rateF_best hok
  have hB := pairL_ok hok
  have hr := rateF_ok hok
  have e : poss t = true ↔ (rateF t).1.le (rateF t).2 := by
    rw [poss, hrRate]
    dsimp only
    rw [Bool.not_eq_true', Frac.lt_false]
  rw [e]
  constructor
  · intro h p hp q hq
    exact Frac.le_trans (hB p hp).2.2.1 hr.2.2.2 (hB q hq).2.2.2 (Frac.le_trans (hB p hp).2.2.1 hr.2.2.1 hr.2.2.2 (hb.1.2 p hp) h) (hb.2.2 q hq)
  · intro h
    obtain ⟨⟨p, hp, e1⟩, _⟩ := hb.1
    obtain ⟨⟨q, hq, e2⟩, _⟩ := hb.2
    rw [← e1, ← e2]
    exact h p hp q hq

/-! a valid test -/
theorem falls_sorted : ∀ (l : List HrMark) (last : Int), fallsGo last l = false → (∀ m, m ∈ l → last < m.minute) ∧ l.Pairwise fun a b => a.minute < b.minute
  | [], _, _ => ⟨fun _ h => (List.not_mem_nil h).elim, .nil⟩
  | m :: r, last, h => by
    rw [fallsGo, Bool.or_eq_false_iff] at h
    have h1 : last < m.minute := by simpa using h.1
    have ⟨h2, h3⟩ := falls_sorted r m.minute h.2
    refine ⟨fun x hx => ?_, .cons h2 h3⟩
    rcases List.mem_cons.1 hx with rfl | hx
    · exact h1
    · have := h2 x hx; omega
theorem testErr_ok {nk : Int} {t : HrTest} (h : hrTestErr nk t = 0) : TestOk t ∧ 0 ≤ t.kind ∧ t.kind < nk := by
  unfold hrTestErr at h
  split at h
  · rename_i h1
    split at h
    · rename_i h2
      split at h
      · rename_i h3
        split at h
        · rename_i h4
          split at h
          · cases h
          · rename_i h5
            simp [gIn] at h1 h2 h3
            have h5' := falls_sorted _ _ (Bool.eq_false_iff.2 h5)
            rw [List.all_eq_true] at h4
            refine ⟨⟨⟨by omega, fun m hm => ?_, by omega⟩, by omega, h5'.2⟩, by omega, by omega⟩
            have := h4 m hm
            simp [markIn, gIn] at this
            omega
        · cases h
      · cases h
    · cases h
  · cases h
theorem open_ok {s : HrShop} {t : HrTest} (h : hrOpen s [t] = 0) : (hrCheck s).2.2 = 0 ∧ hrTestErr s.kinds.length t = 0 := by
  unfold hrOpen at h
  split at h
  · rename_i hc
    refine ⟨hc, ?_⟩
    simp only [testsErr] at h
    split at h <;> assumption
  · contradiction
def hrRateR (s : HrShop) (t : HrTest) : Span × Int := if hrOpen s [t] = 0 then (if poss t = true then ((hrRate t).1, 0) else (⟨0, 0⟩, 9)) else (⟨0, 0⟩, hrOpen s [t])
theorem cRate (s : HrShop) (t : HrTest) : PCall Tryz.prog 32 [s.pv, t.pv] (.tuple [(hrRateR s t).1.pv, .int .i64 (hrRateR s t).2]) := by
  refine pcall_of_wp draws (fn := Tryz.f32) (n := 26) (rs := [.cell 4 47, .tmp 5]) (by kernel_rfl) rfl rfl rfl ok32 (Nat.le_of_ble_eq_true rfl) ?_
  simp (maxSteps := 400000) only [go_sem, simprocAttr]
  refine WF_frz (cHrOpen s [t] true (by simp)) (by simp (maxSteps := 400000) only [go_sem, simprocAttr]) (.int _ _) ?_
  simp (maxSteps := 400000) only [go_sem, simprocAttr]
  cases h0 : (hrOpen s [t] != 0)
  rotate_left
  · have h0' : ¬ hrOpen s [t] = 0 := by simpa using h0
    simp (maxSteps := 400000) only [hrRateR, if_neg h0', Span.pv, go_sem, simprocAttr]
  have h0' : hrOpen s [t] = 0 := by simpa using h0
  have hok := (testErr_ok (open_ok h0').2).1
  simp (maxSteps := 400000) only [go_sem, simprocAttr]
  refine WF_pure (cRate0 t hok) rfl ?_
  simp (maxSteps := 400000) only [Span.pv, go_sem, simprocAttr]
  cases h1 : (hrRate t).2
  · simp (maxSteps := 400000) only [hrRateR, h0', poss, h1, Span.pv, go_sem, simprocAttr]
  · simp (maxSteps := 400000) only [hrRateR, h0', poss, h1, Span.pv, go_sem, simprocAttr]

/-! the reference -/
theorem mulBB {a b : Int} (h1 : -1000000000 ≤ a) (h2 : a ≤ 1000000000) (h3 : -1000000000 ≤ b) (h4 : b ≤ 1000000000) : -1000000000000000000 ≤ a * b ∧ a * b ≤ 1000000000000000000 := by
  rcases Int.le_total 0 b with h | h
  · exact mulB h1 h2 h h4
  · have := mulB h1 h2 (b := -b) (by omega) (by omega)
    rw [Int.mul_neg] at this
    omega
def prs {α : Type} : List α → List (α × α)
  | [] => []
  | x :: r => r.map (fun y => (x, y)) ++ prs r
def okP (e : Int) (p q : HrMark × HrMark) : Bool := !decide ((p.1.weight - p.2.weight - 2 * e) * (q.2.minute - q.1.minute) > (q.1.weight - q.2.weight + 2 * e) * (p.2.minute - p.1.minute))
def possR (t : HrTest) : Bool := (prs t.marks).all fun p => (prs t.marks).all fun q => okP t.error p q
theorem prs_append {α : Type} (x : α) : ∀ l : List α, ∀ q, q ∈ prs (l ++ [x]) ↔ q ∈ prs l ∨ ∃ y, y ∈ l ∧ q = (y, x)
  | [], q => by simp [prs]
  | z :: l, q => by
    rw [List.cons_append, prs, prs, List.mem_append, List.mem_append, prs_append x l, List.map_append, List.mem_append]
    simp only [List.map_cons, List.map_nil, List.mem_cons, List.not_mem_nil, or_false]
    constructor
    · rintro ((h | h) | h | ⟨y, hy, h⟩)
      · exact .inl (.inl h)
      · exact .inr ⟨z, .inl rfl, h⟩
      · exact .inl (.inr h)
      · exact .inr ⟨y, .inr hy, h⟩
    · rintro ((h | h) | ⟨y, rfl | hy, h⟩)
      · exact .inl (.inl h)
      · exact .inr (.inl h)
      · exact .inl (.inr h)
      · exact .inr (.inr ⟨y, hy, h⟩)
theorem mem_pairsGo (e : Int) : ∀ (rest done : List HrMark) (q : Frac × Frac), (q ∈ pairsGo e done rest ∨ ∃ p, p ∈ prs done ∧ q = fracs e p.1 p.2) ↔ ∃ p, p ∈ prs (done ++ rest) ∧ q = fracs e p.1 p.2
  | [], done, q => by simp [pairsGo]
  | b :: r, done, q => by
    have := mem_pairsGo e r (done ++ [b]) q
    rw [List.append_assoc, List.singleton_append] at this
    rw [← this, pairsGo, List.mem_append, List.mem_map]
    constructor
    · rintro ((⟨a, ha, h⟩ | h) | ⟨p, hp, h⟩)
      · exact .inr ⟨(a, b), (prs_append b done _).2 (.inr ⟨a, ha, rfl⟩), h.symm⟩
      · exact .inl h
      · exact .inr ⟨p, (prs_append b done _).2 (.inl hp), h⟩
    · rintro (h | ⟨p, hp, h⟩)
      · exact .inl (.inr h)
      · rcases (prs_append b done _).1 hp with hp | ⟨a, ha, rfl⟩
        · exact .inr ⟨p, hp, h⟩
        · exact .inl (.inl ⟨a, ha, h.symm⟩)
theorem mem_pairL (t : HrTest) (q : Frac × Frac) : q ∈ pairL t ↔ ∃ p, p ∈ prs t.marks ∧ q = fracs t.error p.1 p.2 := by
  have := mem_pairsGo t.error t.marks [] q
  simpa [prs, pairL] using this
theorem okP_le (e : Int) (p q : HrMark × HrMark) : okP e p q = true ↔ (fracs e p.1 p.2).1.le (fracs e q.1 q.2).2 := by
  simp only [okP, fracs, Frac.le, Bool.not_eq_true', decide_eq_false_iff_not, Int.mul_assoc 60]
  omega
theorem possR_eq {t : HrTest} (hok : TestOk t) : possR t = poss t := by
  rw [Bool.eq_iff_iff, poss_iff hok]
  simp only [possR, List.all_eq_true, okP_le]
  constructor
  · rintro h p hp q hq
    obtain ⟨x, hx, rfl⟩ := (mem_pairL t p).1 hp
    obtain ⟨y, hy, rfl⟩ := (mem_pairL t q).1 hq
    exact h x hx y hy
  · intro h x hx y hy
    exact h _ ((mem_pairL t _).2 ⟨x, hx, rfl⟩) _ ((mem_pairL t _).2 ⟨y, hy, rfl⟩)

set_option maxHeartbeats 2000000 in
theorem cRefPossible (t : HrTest) (hok : TestOk t) : PCall Tryz.prog 35 [t.pv] (.bool (possR t)) := by
  have hl := hok.len
  have hmk := hok.all
  have he := hok.err
  generalize hm : t.marks = m at hl hmk
  have hspec : possR t = (prs m).all fun p => (prs m).all fun q => okP t.error p q := by rw [possR, hm]
  refine pcall_of_wp draws (fn := Tryz.f35) (n := 97) (rs := [.tmp 2]) (by kernel_rfl) rfl rfl rfl ok35 (Nat.le_of_ble_eq_true rfl) ?_
  simp (maxSteps := 400000) only [hm, go_sem, simprocAttr]
  refine W_loopA [1, 3] (σ := List HrMark × List HrMark) (fun q => m = q.1 ++ q.2 ∧ possR t = ((prs q.2).all fun p => (prs m).all fun q => okP t.error p q)) (fun q => q.2.length)
    (fun q => [(4, .p (.int .i64 q.1.length))]) (fun _ => [.row 3 [.p t.pv]]) ([], m) ⟨rfl, hspec⟩ ?_ ?_
  · simp (maxSteps := 400000) only [hm, go_sem, simprocAttr]
  rintro ⟨d1, r1⟩ ⟨e1, g1⟩
  dsimp only at e1 g1
  cases r1 with
  | nil =>
    have hlt : ¬ ((d1.length : Int) < (m.length : Int)) := by rw [e1]; simp
    simp (maxSteps := 400000) only [hm, hlt, decide_false, g1, prs, List.all_nil, go_sem, simprocAttr]
  | cons a r1 =>
  obtain ⟨hxa, hlta⟩ := list_at e1
  have hna : IntKind.i64.wrap ((d1.length : Int) + 1) = (((d1 ++ [a]).length : Nat) : Int) := wrap_add (by omega) (by simp [room]; omega) (by simp)
  have ha := hmk a (by rw [e1]; simp)
  simp (maxSteps := 400000) only [hm, hlta, decide_true, hna, go_sem, simprocAttr]
  rw [prs, List.all_append, List.all_map] at g1
  refine W_loopA [1, 3, 4] (σ := List HrMark × List HrMark) (fun q => m = q.1 ++ q.2 ∧ possR t = ((q.2.all fun b => (prs m).all fun q => okP t.error (a, b) q) && ((prs r1).all fun p => (prs m).all fun q => okP t.error p q))) (fun q => q.2.length)
    (fun q => [(5, .p (.int .i64 q.1.length))]) (fun _ => [.row 3 [.p t.pv]]) (d1 ++ [a], r1) ⟨by rw [e1]; simp, g1⟩ ?_ ?_
  · simp (maxSteps := 400000) only [hm, hna, go_sem, simprocAttr]
  rintro ⟨d2, r2⟩ ⟨e2, g2⟩
  dsimp only at e2 g2
  cases r2 with
  | nil =>
    have hlt : ¬ ((d2.length : Int) < (m.length : Int)) := by rw [e2]; simp
    simp (maxSteps := 400000) only [hm, hlt, decide_false, go_sem, simprocAttr]
    refine WQ_headA (d1 ++ [a], r1) ⟨by rw [e1]; simp, by rw [g2, List.all_nil, Bool.true_and]⟩ (Nat.lt_succ_self _) ?_
    simp (maxSteps := 400000) only [hm, hna, go_sem, simprocAttr]
  | cons b r2 =>
  obtain ⟨hxb, hltb⟩ := list_at e2
  have hnb : IntKind.i64.wrap ((d2.length : Int) + 1) = (((d2 ++ [b]).length : Nat) : Int) := wrap_add (by omega) (by simp [room]; omega) (by simp)
  have hb := hmk b (by rw [e2]; simp)
  simp (maxSteps := 400000) only [hm, hltb, decide_true, go_sem, simprocAttr]
  rw [List.all_cons] at g2
  refine W_loopA [1, 3, 4, 5] (σ := List HrMark × List HrMark) (fun q => m = q.1 ++ q.2 ∧ possR t = (((prs q.2).all fun q => okP t.error (a, b) q) && (r2.all fun b => (prs m).all fun q => okP t.error (a, b) q) && ((prs r1).all fun p => (prs m).all fun q => okP t.error p q))) (fun q => q.2.length)
    (fun q => [(6, .p (.int .i64 q.1.length))]) (fun _ => [.row 3 [.p t.pv]]) ([], m) ⟨rfl, g2⟩ ?_ ?_
  · simp (maxSteps := 400000) only [hm, go_sem, simprocAttr]
  rintro ⟨d3, r3⟩ ⟨e3, g3⟩
  dsimp only at e3 g3
  cases r3 with
  | nil =>
    have hlt : ¬ ((d3.length : Int) < (m.length : Int)) := by rw [e3]; simp
    simp (maxSteps := 400000) only [hm, hlt, decide_false, go_sem, simprocAttr]
    refine WQ_headA (d2 ++ [b], r2) ⟨by rw [e2]; simp, by rw [g3, prs, List.all_nil, Bool.true_and]⟩ (Nat.lt_succ_self _) ?_
    simp (maxSteps := 400000) only [hm, hnb, go_sem, simprocAttr]
  | cons c r3 =>
  obtain ⟨hxc, hltc⟩ := list_at e3
  have hnc : IntKind.i64.wrap ((d3.length : Int) + 1) = (((d3 ++ [c]).length : Nat) : Int) := wrap_add (by omega) (by simp [room]; omega) (by simp)
  have hc := hmk c (by rw [e3]; simp)
  simp (maxSteps := 400000) only [hm, hltc, decide_true, hnc, go_sem, simprocAttr]
  rw [prs, List.all_append, List.all_map] at g3
  refine W_loopA [1, 3, 4, 5, 6] (σ := List HrMark × List HrMark) (fun q => m = q.1 ++ q.2 ∧ possR t = ((q.2.all fun d => okP t.error (a, b) (c, d)) && ((prs r3).all fun q => okP t.error (a, b) q) && (r2.all fun b => (prs m).all fun q => okP t.error (a, b) q) && ((prs r1).all fun p => (prs m).all fun q => okP t.error p q))) (fun q => q.2.length)
    (fun q => [(7, .p (.int .i64 q.1.length))]) (fun _ => [.row 3 [.p t.pv]]) (d3 ++ [c], r3) ⟨by rw [e3]; simp, g3⟩ ?_ ?_
  · simp (maxSteps := 400000) only [hm, hnc, go_sem, simprocAttr]
  rintro ⟨d4, r4⟩ ⟨e4, g4⟩
  dsimp only at e4 g4
  cases r4 with
  | nil =>
    have hlt : ¬ ((d4.length : Int) < (m.length : Int)) := by rw [e4]; simp
    simp (maxSteps := 400000) only [hm, hlt, decide_false, go_sem, simprocAttr]
    refine WQ_headA (d3 ++ [c], r3) ⟨by rw [e3]; simp, by rw [g4, List.all_nil, Bool.true_and]⟩ (Nat.lt_succ_self _) ?_
    simp (maxSteps := 400000) only [hm, hnc, go_sem, simprocAttr]
  | cons d r4 =>
  obtain ⟨hxd, hltd⟩ := list_at e4
  have hnd : IntKind.i64.wrap ((d4.length : Int) + 1) = (((d4 ++ [d]).length : Nat) : Int) := wrap_add (by omega) (by simp [room]; omega) (by simp)
  have hd := hmk d (by rw [e4]; simp)
  rw [List.all_cons] at g4
  have w1 : IntKind.i64.wrap (a.weight - b.weight) = a.weight - b.weight := wrap_in (by omega) (by omega)
  have w2 : IntKind.i64.wrap (2 * t.error) = 2 * t.error := wrap_in (by omega) (by omega)
  have w3 : IntKind.i64.wrap (a.weight - b.weight - 2 * t.error) = a.weight - b.weight - 2 * t.error := wrap_in (by omega) (by omega)
  have w4 : IntKind.i64.wrap (c.weight - d.weight) = c.weight - d.weight := wrap_in (by omega) (by omega)
  have w5 : IntKind.i64.wrap (c.weight - d.weight + 2 * t.error) = c.weight - d.weight + 2 * t.error := wrap_in (by omega) (by omega)
  have w6 : IntKind.i64.wrap (d.minute - c.minute) = d.minute - c.minute := wrap_in (by omega) (by omega)
  have w7 : IntKind.i64.wrap (b.minute - a.minute) = b.minute - a.minute := wrap_in (by omega) (by omega)
  have q1 := mulBB (a := a.weight - b.weight - 2 * t.error) (b := d.minute - c.minute) (by omega) (by omega) (by omega) (by omega)
  have q2 := mulBB (a := c.weight - d.weight + 2 * t.error) (b := b.minute - a.minute) (by omega) (by omega) (by omega) (by omega)
  have w8 : IntKind.i64.wrap ((a.weight - b.weight - 2 * t.error) * (d.minute - c.minute)) = (a.weight - b.weight - 2 * t.error) * (d.minute - c.minute) := wrap_in (by omega) (by omega)
  have w9 : IntKind.i64.wrap ((c.weight - d.weight + 2 * t.error) * (b.minute - a.minute)) = (c.weight - d.weight + 2 * t.error) * (b.minute - a.minute) := wrap_in (by omega) (by omega)
  simp (maxSteps := 400000) only [hm, hltd, decide_true, hxa, hxb, hxc, hxd, hlta, hltb, hltc, w1, w2, w3, w4, w5, w6, w7, w8, w9, go_sem, simprocAttr]
  cases hok4 : okP t.error (a, b) (c, d)
  · have hcnd : (c.weight - d.weight + 2 * t.error) * (b.minute - a.minute) < (a.weight - b.weight - 2 * t.error) * (d.minute - c.minute) := by simpa [okP] using hok4
    rw [hok4] at g4
    simp (maxSteps := 400000) only [hcnd, decide_true, g4, go_sem, simprocAttr]
  · have hcnd : ¬ (c.weight - d.weight + 2 * t.error) * (b.minute - a.minute) < (a.weight - b.weight - 2 * t.error) * (d.minute - c.minute) := by simpa [okP] using hok4
    rw [hok4] at g4
    simp (maxSteps := 400000) only [hcnd, decide_false, go_sem, simprocAttr]
    refine WQ_headA (d4 ++ [d], r4) ⟨by rw [e4]; simp, by rw [g4, Bool.true_and]⟩ (Nat.lt_succ_self _) ?_
    simp (maxSteps := 400000) only [hm, hnd, go_sem, simprocAttr]
end Abs
end Go.Proofs.YtdellinghbppgaaGreatDoor
