/-
  CONTRACTS: the laws BlendBest, BlendStays.
-/
import Derived.Test.YthekmbikolpmlaaBdLaw3
namespace Go.Proofs.Ythekmbikolpmlaa
namespace Abs
set_option linter.unusedSimpArgs false
set_option linter.unusedVariables false
set_option maxRecDepth 100000

/-! the least one -/
theorem cheapGo_min (pr : List Int → Int) : ∀ (t : List (List Int)) (b : Option (List Int)) (r : List Int), cheapGo pr b t = some r → (∀ x, x ∈ t → pr r ≤ pr x) ∧ ∀ b0, b = some b0 → pr r ≤ pr b0
  | [], b, r, h => by
    have : b = some r := by cases b <;> simp_all [cheapGo]
    exact ⟨by simp, fun b0 hb => by rw [this] at hb; cases hb; omega⟩
  | x :: t, none, r, h => by
    rw [cheapGo] at h
    obtain ⟨h1, h2⟩ := cheapGo_min pr t _ r h
    refine ⟨fun y hy => ?_, by simp⟩
    rcases List.mem_cons.1 hy with rfl | hy
    · exact h2 _ rfl
    · exact h1 y hy
  | x :: t, some b, r, h => by
    rw [cheapGo] at h
    split at h
    · rename_i hlt
      obtain ⟨h1, h2⟩ := cheapGo_min pr t _ r h
      have h3 := h2 _ rfl
      refine ⟨fun y hy => ?_, fun b0 hb => by cases hb; omega⟩
      rcases List.mem_cons.1 hy with rfl | hy
      · exact h3
      · exact h1 y hy
    · rename_i hlt
      obtain ⟨h1, h2⟩ := cheapGo_min pr t _ r h
      have h3 := h2 _ rfl
      refine ⟨fun y hy => ?_, fun b0 hb => by cases hb; exact h3⟩
      rcases List.mem_cons.1 hy with rfl | hy
      · omega
      · exact h1 y hy
theorem cheapGo_some (pr : List Int → Int) : ∀ (t : List (List Int)) (b : List Int), ∃ r, cheapGo pr (some b) t = some r
  | [], b => ⟨b, rfl⟩
  | x :: t, b => by
    rw [cheapGo]
    split
    · exact cheapGo_some pr t x
    · exact cheapGo_some pr t b
theorem cheapGo_none (pr : List Int → Int) {t : List (List Int)} (h : cheapGo pr none t = none) : t = [] := by
  cases t with
  | nil => rfl
  | cons x t =>
    rw [cheapGo] at h
    obtain ⟨r, hr⟩ := cheapGo_some pr t x
    rw [hr] at h; cases h
theorem cheapGo_in (pr : List Int → Int) {t : List (List Int)} {r : List Int} (h : cheapGo pr none t = some r) : r ∈ t := by
  rcases cheapGo_mem pr t none r h with h | h
  · cases h
  · exact h
theorem mem_fits {l : List BdWax} {w : BdWish} {r : List Int} (hl : BdWaxesOk l) (hr : RecOk l.length r) (h : whyS l w r = 0) : r ∈ fits l w :=
  List.mem_filter.2 ⟨recs_all _ _ _ (by have := hl.len; have := hr.len; omega) (fun n hn => (hr.rng n hn).1) hr.sum, by simpa using h⟩
set_option maxHeartbeats 2000000 in
theorem lBlendBest (l : List BdWax) (w : BdWish) (x : List Int) (hx : U16s x) : PCall Try.prog 9 [bdWaxes l, w.pv, u16s x] (.bool true) := by
  refine pcall_of_wp draws (fn := Try.f9) (n := 92) (rs := [.tmp 6]) (by kernel_rfl) rfl rfl rfl ok9 (Nat.le_of_ble_eq_true rfl) ?_
  simp (config := { maxSteps := 400000 }) only [go_sem, ↓reduceIte, reduceCtorEq, Nat.reduceEqDiff, Nat.reduceAdd, Nat.reduceLT, Nat.reduceLeDiff, Nat.reduceSub, Int.reduceToNat, Int.reduceLE, Int.reduceLT, Int.reduceNeg, Int.reduceBEq, Int.reduceBNe, Nat.reduceMul, Int.reduceAdd, Int.reduceMul, Int.reduceSub, Int.reduceEq, Int.reduceNe]
  (first | refine WF_pure (cCheapest l w) rfl ?_ | refine WDQ_pure (cCheapest l w) rfl ?_)
  simp (config := { maxSteps := 400000 }) only [bestPV, go_sem, ↓reduceIte, reduceCtorEq, Nat.reduceEqDiff, Nat.reduceAdd, Nat.reduceLT, Nat.reduceLeDiff, Nat.reduceSub, Int.reduceToNat, Int.reduceLE, Int.reduceLT, Int.reduceNeg, Int.reduceBEq, Int.reduceBNe, Nat.reduceMul, Int.reduceAdd, Int.reduceMul, Int.reduceSub, Int.reduceEq, Int.reduceNe]
  (first | refine WF_pure (cRefWish l w) rfl ?_ | refine WDQ_pure (cRefWish l w) rfl ?_)
  simp (config := { maxSteps := 400000 }) only [go_sem, ↓reduceIte, reduceCtorEq, Nat.reduceEqDiff, Nat.reduceAdd, Nat.reduceLT, Nat.reduceLeDiff, Nat.reduceSub, Int.reduceToNat, Int.reduceLE, Int.reduceLT, Int.reduceNeg, Int.reduceBEq, Int.reduceBNe, Nat.reduceMul, Int.reduceAdd, Int.reduceMul, Int.reduceSub, Int.reduceEq, Int.reduceNe]
  refine WB_split (fun he => ?_) (fun he => ?_)
  · have he' : ¬ wishErr l w = 0 := by simpa using he
    have hv : bdCheapest l w = ([], 0, wishErr l w) := by rw [bdCheapest, if_neg he']
    simp (config := { maxSteps := 400000 }) only [hv, beq_self_eq_true, go_sem, ↓reduceIte, reduceCtorEq, Nat.reduceEqDiff, Nat.reduceAdd, Nat.reduceLT, Nat.reduceLeDiff, Nat.reduceSub, Int.reduceToNat, Int.reduceLE, Int.reduceLT, Int.reduceNeg, Int.reduceBEq, Int.reduceBNe, Nat.reduceMul, Int.reduceAdd, Int.reduceMul, Int.reduceSub, Int.reduceEq, Int.reduceNe]
    (first | refine WF_pure (cAwake) rfl ?_ | refine WDQ_pure (cAwake) rfl ?_)
    simp (config := { maxSteps := 400000 }) only [go_sem, ↓reduceIte, reduceCtorEq, Nat.reduceEqDiff, Nat.reduceAdd, Nat.reduceLT, Nat.reduceLeDiff, Nat.reduceSub, Int.reduceToNat, Int.reduceLE, Int.reduceLT, Int.reduceNeg, Int.reduceBEq, Int.reduceBNe, Nat.reduceMul, Int.reduceAdd, Int.reduceMul, Int.reduceSub, Int.reduceEq, Int.reduceNe]
  have he' : wishErr l w = 0 := by simpa using he
  obtain ⟨hl, hw⟩ := wishOk_of he'
  have hl5 := hl.len
  have hr := parted_ok hx.1 hl.len.1
  have hv : bdCheapest l w = match cheapGo (bdPrice l) none (fits l w) with | none => ([], 0, 9) | some b => (b, bdPrice l b, 0) := by rw [bdCheapest, if_pos he'] <;> rfl
  rw [hv]
  have hpos := mem_fits (w := w) hl hr
  cases hc : cheapGo (bdPrice l) none (fits l w) with
  | none =>
    have hnil := cheapGo_none _ hc
    have hno : ¬ whyS l w (parted l.length x) = 0 := fun h => by have := hpos h; rw [hnil] at this; cases this
    have hno' : (whyS l w (parted l.length x) != 0) = true := by simpa using hno
    simp (config := { maxSteps := 400000 }) only [go_sem, ↓reduceIte, reduceCtorEq, Nat.reduceEqDiff, Nat.reduceAdd, Nat.reduceLT, Nat.reduceLeDiff, Nat.reduceSub, Int.reduceToNat, Int.reduceLE, Int.reduceLT, Int.reduceNeg, Int.reduceBEq, Int.reduceBNe, Nat.reduceMul, Int.reduceAdd, Int.reduceMul, Int.reduceSub, Int.reduceEq, Int.reduceNe]
    (first | refine WF_pure (cParted l.length x false hl.len hx.1 hx.2) rfl ?_ | refine WDQ_pure (cParted l.length x false hl.len hx.1 hx.2) rfl ?_)
    simp (config := { maxSteps := 400000 }) only [go_sem, ↓reduceIte, reduceCtorEq, Nat.reduceEqDiff, Nat.reduceAdd, Nat.reduceLT, Nat.reduceLeDiff, Nat.reduceSub, Int.reduceToNat, Int.reduceLE, Int.reduceLT, Int.reduceNeg, Int.reduceBEq, Int.reduceBNe, Nat.reduceMul, Int.reduceAdd, Int.reduceMul, Int.reduceSub, Int.reduceEq, Int.reduceNe]
    (first | refine WF_pure (cWhy1 false hl hw hr.len hr.rng) rfl ?_ | refine WDQ_pure (cWhy1 false hl hw hr.len hr.rng) rfl ?_)
    simp (config := { maxSteps := 400000 }) only [hno', go_sem, ↓reduceIte, reduceCtorEq, Nat.reduceEqDiff, Nat.reduceAdd, Nat.reduceLT, Nat.reduceLeDiff, Nat.reduceSub, Int.reduceToNat, Int.reduceLE, Int.reduceLT, Int.reduceNeg, Int.reduceBEq, Int.reduceBNe, Nat.reduceMul, Int.reduceAdd, Int.reduceMul, Int.reduceSub, Int.reduceEq, Int.reduceNe]
    (first | refine WF_pure (cAwake) rfl ?_ | refine WDQ_pure (cAwake) rfl ?_)
    simp (config := { maxSteps := 400000 }) only [go_sem, ↓reduceIte, reduceCtorEq, Nat.reduceEqDiff, Nat.reduceAdd, Nat.reduceLT, Nat.reduceLeDiff, Nat.reduceSub, Int.reduceToNat, Int.reduceLE, Int.reduceLT, Int.reduceNeg, Int.reduceBEq, Int.reduceBNe, Nat.reduceMul, Int.reduceAdd, Int.reduceMul, Int.reduceSub, Int.reduceEq, Int.reduceNe]
  | some b =>
    have hb := fits_rec hl (cheapGo_in _ hc)
    have hmin := (cheapGo_min _ _ _ _ hc).1
    simp (config := { maxSteps := 400000 }) only [go_sem, ↓reduceIte, reduceCtorEq, Nat.reduceEqDiff, Nat.reduceAdd, Nat.reduceLT, Nat.reduceLeDiff, Nat.reduceSub, Int.reduceToNat, Int.reduceLE, Int.reduceLT, Int.reduceNeg, Int.reduceBEq, Int.reduceBNe, Nat.reduceMul, Int.reduceAdd, Int.reduceMul, Int.reduceSub, Int.reduceEq, Int.reduceNe]
    (first | refine WF_pure (cParted l.length x false hl.len hx.1 hx.2) rfl ?_ | refine WDQ_pure (cParted l.length x false hl.len hx.1 hx.2) rfl ?_)
    simp (config := { maxSteps := 400000 }) only [go_sem, ↓reduceIte, reduceCtorEq, Nat.reduceEqDiff, Nat.reduceAdd, Nat.reduceLT, Nat.reduceLeDiff, Nat.reduceSub, Int.reduceToNat, Int.reduceLE, Int.reduceLT, Int.reduceNeg, Int.reduceBEq, Int.reduceBNe, Nat.reduceMul, Int.reduceAdd, Int.reduceMul, Int.reduceSub, Int.reduceEq, Int.reduceNe]
    (first | refine WF_pure (cRefRecipe l.length b false hl.len.2) rfl ?_ | refine WDQ_pure (cRefRecipe l.length b false hl.len.2) rfl ?_)
    simp (config := { maxSteps := 400000 }) only [recErr_ok hb.1, go_sem, ↓reduceIte, reduceCtorEq, Nat.reduceEqDiff, Nat.reduceAdd, Nat.reduceLT, Nat.reduceLeDiff, Nat.reduceSub, Int.reduceToNat, Int.reduceLE, Int.reduceLT, Int.reduceNeg, Int.reduceBEq, Int.reduceBNe, Nat.reduceMul, Int.reduceAdd, Int.reduceMul, Int.reduceSub, Int.reduceEq, Int.reduceNe]
    (first | refine WF_pure (cWhy1 false hl hw hb.1.len hb.1.rng) rfl ?_ | refine WDQ_pure (cWhy1 false hl hw hb.1.len hb.1.rng) rfl ?_)
    simp (config := { maxSteps := 400000 }) only [hb.2, go_sem, ↓reduceIte, reduceCtorEq, Nat.reduceEqDiff, Nat.reduceAdd, Nat.reduceLT, Nat.reduceLeDiff, Nat.reduceSub, Int.reduceToNat, Int.reduceLE, Int.reduceLT, Int.reduceNeg, Int.reduceBEq, Int.reduceBNe, Nat.reduceMul, Int.reduceAdd, Int.reduceMul, Int.reduceSub, Int.reduceEq, Int.reduceNe]
    (first | refine WF_pure (cRefPriceZ false false hl hb.1.len hb.1.rng) rfl ?_ | refine WDQ_pure (cRefPriceZ false false hl hb.1.len hb.1.rng) rfl ?_)
    have hp : sumP fPrice (l.zip b) = bdPrice l b := rfl
    simp (config := { maxSteps := 400000 }) only [hp, bne_self_eq_false, go_sem, ↓reduceIte, reduceCtorEq, Nat.reduceEqDiff, Nat.reduceAdd, Nat.reduceLT, Nat.reduceLeDiff, Nat.reduceSub, Int.reduceToNat, Int.reduceLE, Int.reduceLT, Int.reduceNeg, Int.reduceBEq, Int.reduceBNe, Nat.reduceMul, Int.reduceAdd, Int.reduceMul, Int.reduceSub, Int.reduceEq, Int.reduceNe]
    (first | refine WF_pure (cWhy1 false hl hw hr.len hr.rng) rfl ?_ | refine WDQ_pure (cWhy1 false hl hw hr.len hr.rng) rfl ?_)
    simp (config := { maxSteps := 400000 }) only [go_sem, ↓reduceIte, reduceCtorEq, Nat.reduceEqDiff, Nat.reduceAdd, Nat.reduceLT, Nat.reduceLeDiff, Nat.reduceSub, Int.reduceToNat, Int.reduceLE, Int.reduceLT, Int.reduceNeg, Int.reduceBEq, Int.reduceBNe, Nat.reduceMul, Int.reduceAdd, Int.reduceMul, Int.reduceSub, Int.reduceEq, Int.reduceNe]
    cases hy : (whyS l w (parted l.length x) != 0)
    · have hy' : whyS l w (parted l.length x) = 0 := by simpa using hy
      simp (config := { maxSteps := 400000 }) only [hy, go_sem, ↓reduceIte, reduceCtorEq, Nat.reduceEqDiff, Nat.reduceAdd, Nat.reduceLT, Nat.reduceLeDiff, Nat.reduceSub, Int.reduceToNat, Int.reduceLE, Int.reduceLT, Int.reduceNeg, Int.reduceBEq, Int.reduceBNe, Nat.reduceMul, Int.reduceAdd, Int.reduceMul, Int.reduceSub, Int.reduceEq, Int.reduceNe]
      (first | refine WF_pure (cRefPriceZ false false hl hr.len hr.rng) rfl ?_ | refine WDQ_pure (cRefPriceZ false false hl hr.len hr.rng) rfl ?_)
      have hle : bdPrice l b ≤ sumP fPrice (l.zip (parted l.length x)) := hmin _ (hpos hy')
      simp (config := { maxSteps := 400000 }) only [hle, go_sem, ↓reduceIte, reduceCtorEq, Nat.reduceEqDiff, Nat.reduceAdd, Nat.reduceLT, Nat.reduceLeDiff, Nat.reduceSub, Int.reduceToNat, Int.reduceLE, Int.reduceLT, Int.reduceNeg, Int.reduceBEq, Int.reduceBNe, Nat.reduceMul, Int.reduceAdd, Int.reduceMul, Int.reduceSub, Int.reduceEq, Int.reduceNe]
      (first | refine WF_pure (cAwake) rfl ?_ | refine WDQ_pure (cAwake) rfl ?_)
      simp (config := { maxSteps := 400000 }) only [go_sem, ↓reduceIte, reduceCtorEq, Nat.reduceEqDiff, Nat.reduceAdd, Nat.reduceLT, Nat.reduceLeDiff, Nat.reduceSub, Int.reduceToNat, Int.reduceLE, Int.reduceLT, Int.reduceNeg, Int.reduceBEq, Int.reduceBNe, Nat.reduceMul, Int.reduceAdd, Int.reduceMul, Int.reduceSub, Int.reduceEq, Int.reduceNe]
    · simp (config := { maxSteps := 400000 }) only [hy, go_sem, ↓reduceIte, reduceCtorEq, Nat.reduceEqDiff, Nat.reduceAdd, Nat.reduceLT, Nat.reduceLeDiff, Nat.reduceSub, Int.reduceToNat, Int.reduceLE, Int.reduceLT, Int.reduceNeg, Int.reduceBEq, Int.reduceBNe, Nat.reduceMul, Int.reduceAdd, Int.reduceMul, Int.reduceSub, Int.reduceEq, Int.reduceNe]
      (first | refine WF_pure (cAwake) rfl ?_ | refine WDQ_pure (cAwake) rfl ?_)
      simp (config := { maxSteps := 400000 }) only [go_sem, ↓reduceIte, reduceCtorEq, Nat.reduceEqDiff, Nat.reduceAdd, Nat.reduceLT, Nat.reduceLeDiff, Nat.reduceSub, Int.reduceToNat, Int.reduceLE, Int.reduceLT, Int.reduceNeg, Int.reduceBEq, Int.reduceBNe, Nat.reduceMul, Int.reduceAdd, Int.reduceMul, Int.reduceSub, Int.reduceEq, Int.reduceNe]

/-! what a check asks, apart from names -/
def waxBase (x : BdWax) : Int :=
  if (gIn x.price 0 100000 && (inS x.melt 0 2000 && inS x.shrink 0 1000)) = true then (if (turnedS x.melt || turnedS x.shrink) = true then 2 else curveErr x.curve) else 7
theorem waxErr_zero (before : List ByteArray) (x : BdWax) : bdWaxErr before x = 0 ↔ nameOk x.name = true ∧ before.any (fun t => t == x.name) = false ∧ waxBase x = 0 := by
  unfold bdWaxErr namedErr waxBase
  cases nameOk x.name <;> cases before.any (fun t => t == x.name) <;> simp
theorem firstErr_iff : ∀ (l : List BdWax) (before : List ByteArray), firstErr bdWaxErr (·.name) l before = none ↔
    (∀ x, x ∈ l → nameOk x.name = true ∧ waxBase x = 0 ∧ before.any (fun t => t == x.name) = false) ∧ l.Pairwise (fun a b => (a.name == b.name) = false)
  | [], before => by simp [firstErr]
  | y :: l, before => by
    rw [firstErr, List.pairwise_cons]
    by_cases h : bdWaxErr before y = 0
    · rw [if_pos h, firstErr_iff l (before ++ [y.name])]
      obtain ⟨h1, h2, h3⟩ := (waxErr_zero before y).1 h
      simp only [List.any_append, List.any_cons, List.any_nil, Bool.or_false, Bool.or_eq_false_iff, List.mem_cons, forall_eq_or_imp]
      constructor
      · rintro ⟨a, b⟩
        exact ⟨⟨⟨h1, h3, h2⟩, fun x hx => ⟨(a x hx).1, (a x hx).2.1, (a x hx).2.2.1⟩⟩, fun x hx => (a x hx).2.2.2, b⟩
      · rintro ⟨⟨_, a⟩, b, c⟩
        exact ⟨fun x hx => ⟨(a x hx).1, (a x hx).2.1, (a x hx).2.2, b x hx⟩, c⟩
    · rw [if_neg h]
      simp only [reduceCtorEq, false_iff, List.mem_cons, forall_eq_or_imp]
      rintro ⟨⟨⟨a, b, c⟩, _⟩, _⟩
      exact h ((waxErr_zero before y).2 ⟨a, c, b⟩)
theorem bdE_iff (l : List BdWax) : bdE l = 0 ↔ (1 ≤ l.length ∧ l.length ≤ 5) ∧ (∀ x, x ∈ l → nameOk x.name = true ∧ waxBase x = 0) ∧ l.Pairwise (fun a b => (a.name == b.name) = false) := by
  constructor
  · intro h
    obtain ⟨h1, h2⟩ := bdE_first h
    obtain ⟨h3, h4⟩ := (firstErr_iff l []).1 h2
    exact ⟨h1, fun x hx => ⟨(h3 x hx).1, (h3 x hx).2.1⟩, h4⟩
  · rintro ⟨h1, h2, h3⟩
    have h4 := (firstErr_iff l []).2 ⟨fun x hx => ⟨(h2 x hx).1, (h2 x hx).2, rfl⟩, h3⟩
    have hg : gIn l.length 1 5 = true := by simp [gIn]; omega
    rw [bdE, bdCheck, if_pos hg, h4]; rfl
/-- waxes of which numbers have changed -/
theorem bdE_map {l m : List BdWax} (hl : bdE l = 0) (hn : m.map (·.name) = l.map (·.name)) (hb : ∀ x, x ∈ m → waxBase x = 0) : bdE m = 0 := by
  obtain ⟨h1, h2, h3⟩ := (bdE_iff l).1 hl
  have hlen : m.length = l.length := by have := congrArg List.length hn; simpa using this
  refine (bdE_iff m).2 ⟨by omega, fun x hx => ⟨?_, hb x hx⟩, ?_⟩
  · have : x.name ∈ l.map (·.name) := by rw [← hn]; exact List.mem_map.2 ⟨x, hx, rfl⟩
    obtain ⟨y, hy, e⟩ := List.mem_map.1 this
    have := (h2 y hy).1
    rwa [e] at this
  · have e1 : (l.map (·.name)).Pairwise (fun a b => (a == b) = false) := List.pairwise_map.2 h3
    rw [← hn] at e1
    exact List.pairwise_map.1 e1
theorem base_ok {x : BdWax} (h : BdWaxOk x) (hc : curveErr x.curve = 0) : waxBase x = 0 := by
  have h1 := h.price
  have h2 := h.melt
  have h3 := h.shrink
  have e1 : (gIn x.price 0 100000 && (inS x.melt 0 2000 && inS x.shrink 0 1000)) = true := by simp [gIn, inS]; omega
  have e2 : ¬ (turnedS x.melt || turnedS x.shrink) = true := by simp [turnedS]; omega
  rw [waxBase, if_pos e1, if_neg e2, hc]
theorem base_curve {x : BdWax} (h : waxBase x = 0) : curveErr x.curve = 0 := by
  unfold waxBase at h
  split at h
  · split at h
    · cases h
    · exact h
  · cases h

/-! another price -/
theorem set_sum (f : BdWax × Int → Int) : ∀ (l : List BdWax) (k : Nat) (y z : BdWax) (x : List Int), l[k]? = some y → (∀ n, f (z, n) = f (y, n)) → sumP f ((l.set k z).zip x) = sumP f (l.zip x)
  | [], k, y, z, x, h, _ => by simp at h
  | v :: l, k, y, z, [], h, _ => by simp [sumP]
  | v :: l, 0, y, z, n :: x, h, hf => by cases h; simp [sumP, hf]
  | v :: l, k + 1, y, z, n :: x, h, hf => by
    have ih := set_sum f l k y z x (by simpa using h) hf
    simp only [sumP, List.set_cons_succ, List.zip_cons_cons, List.map_cons, List.sum_cons] at ih ⊢
    rw [ih]
theorem why_set {l : List BdWax} {k : Nat} {y : BdWax} (c : Int) (w : BdWish) (x : List Int) (hy : l[k]? = some y) : whyS (l.set k { y with price := c }) w x = whyS l w x := by
  have h := fun f hf => set_sum f l k y { y with price := c } x hy hf
  unfold whyS meltP shrinkP
  rw [h fSoft fun n => rfl, h fHard fun n => rfl, h fLeast fun n => rfl, h fMost fun n => rfl, h fRaise fun n => rfl]
theorem fits_set {l : List BdWax} {k : Nat} {y : BdWax} (c : Int) (w : BdWish) (hy : l[k]? = some y) : fits (l.set k { y with price := c }) w = fits l w := by
  unfold fits
  rw [List.length_set]
  congr 1
  funext x
  rw [why_set c w x hy]
theorem priced_bdE {l : List BdWax} (h : bdE l = 0) {k : Nat} {y : BdWax} {c : Int} (hy : l[k]? = some y) (hc : 0 ≤ c ∧ c ≤ 100000) : bdE (l.set k { y with price := c }) = 0 := by
  have hl := bdWaxesOk_of h
  refine bdE_map h ?_ fun x hx => ?_
  · rw [List.map_set]
    have : (l.map (·.name))[k]? = some y.name := by rw [List.getElem?_map, hy]; rfl
    obtain ⟨hk, he⟩ := List.getElem?_eq_some_iff.1 this
    rw [← he]
    exact List.set_getElem_self hk
  · refine base_ok ((priced_ok hl hy hc).wax x hx) ?_
    rcases List.mem_or_eq_of_mem_set hx with h1 | rfl
    · exact base_curve (((bdE_iff l).1 h).2.1 x h1).2
    · show curveErr y.curve = 0
      exact base_curve (((bdE_iff l).1 h).2.1 y (List.mem_of_getElem? hy)).2
theorem wish_of {l m : List BdWax} {w : BdWish} (h : wishErr l w = 0) (hm : bdE m = 0) (hlen : m.length = l.length) : wishErr m w = 0 := by
  unfold wishErr at h ⊢
  rw [if_pos (wish_bdE (l := l) (w := w) h)] at h
  rw [if_pos hm, hlen]; exact h

/-! for which prices -/
theorem step_iff {s t : Span} {y more c : Int} (h : stayStep s y more = some t) : (t.lo ≤ c ∧ c ≤ t.hi) ↔ ((s.lo ≤ c ∧ c ≤ s.hi) ∧ y * c + more ≤ 0) := by
  unfold stayStep at h
  split at h
  · rename_i h1
    cases h
    have e : c ≤ (-more) / y ↔ y * c + more ≤ 0 := by rw [Int.le_ediv_iff_mul_le h1, Int.mul_comm]; omega
    dsimp only
    rw [← e]
    split <;> omega
  · rename_i h1
    split at h
    · rename_i h2
      cases h
      have e : -((-more) / (-y)) ≤ c ↔ y * c + more ≤ 0 := by
        have : -c ≤ (-more) / (-y) ↔ (-c) * (-y) ≤ -more := Int.le_ediv_iff_mul_le (by omega)
        have e2 : (-c) * (-y) = y * c := by rw [Int.neg_mul_neg, Int.mul_comm]
        rw [e2] at this
        omega
      dsimp only
      rw [← e]
      split <;> omega
    · rename_i h2
      have hy : y = 0 := by omega
      subst hy
      split at h
      · cases h
      · cases h; omega
theorem step_none {s : Span} {y more : Int} (h : stayStep s y more = none) (c : Int) : ¬ y * c + more ≤ 0 := by
  unfold stayStep at h
  split at h
  · cases h
  · split at h
    · cases h
    · have hy : y = 0 := by omega
      subst hy
      split at h
      · omega
      · cases h
theorem stay_iff (f g : List Int → Int) (c : Int) : ∀ (t : List (List Int)) (s : Span),
    (match stayGo f g s t with | none => False | some u => u.lo ≤ c ∧ c ≤ u.hi) ↔ ((s.lo ≤ c ∧ c ≤ s.hi) ∧ ∀ x, x ∈ t → f x * c + g x ≤ 0)
  | [], s => by simp [stayGo]
  | y :: t, s => by
    rw [stayGo]
    cases hs : stayStep s (f y) (g y) with
    | none =>
      have := step_none hs c
      simp only [List.mem_cons, forall_eq_or_imp, false_iff]
      rintro ⟨_, h, _⟩
      exact this h
    | some u =>
      have h1 := stay_iff f g c t u
      have h2 := step_iff (c := c) hs
      simp only [List.mem_cons, forall_eq_or_imp]
      rw [h1, h2]
      constructor
      · rintro ⟨⟨a, b⟩, d⟩; exact ⟨a, b, d⟩
      · rintro ⟨a, b, d⟩; exact ⟨⟨a, b⟩, d⟩
theorem best_at {l : List BdWax} {w : BdWish} (h : wishErr l w = 0) : bdCheapest l w = match cheapGo (bdPrice l) none (fits l w) with | none => ([], 0, 9) | some b => (b, bdPrice l b, 0) := by rw [bdCheapest, if_pos h] <;> rfl
/-- what Stays says of a price -/
theorem stays_iff {l : List BdWax} {w : BdWish} {r : List Int} {k : Int} {y : BdWax} {c : Int} (hw : wishErr l w = 0) (hr : RecOk l.length r) (h0 : whyS l w r = 0) (hk : 0 ≤ k ∧ k < (l.length : Int)) (hy : l[k.toNat]? = some y) (hc : 0 ≤ c ∧ c ≤ 100000) :
    ((bdStays l w r k).2 = 0 ∨ (bdStays l w r k).2 = 9) ∧ (((bdStays l w r k).2 = 0 ∧ (bdStays l w r k).1.lo ≤ c ∧ c ≤ (bdStays l w r k).1.hi) ↔ ∀ x, x ∈ fits l w → bdPrice (l.set k.toNat { y with price := c }) r ≤ bdPrice (l.set k.toNat { y with price := c }) x) := by
  have hl := (wishOk_of hw).1
  have hg : gIn k 0 ((l.length : Int) - 1) = true := by simp [gIn]; omega
  have hs : bdStays l w r k = match stayGo (fun x => r.getD k.toNat 0 - x.getD k.toNat 0) (fun x => restP l k.toNat r - restP l k.toNat x) ⟨0, 100000⟩ (fits l w) with
          | none => (⟨0, 0⟩, 9)
          | some s => if s.hi < s.lo then (⟨0, 0⟩, 9) else (s, 0) := by rw [bdStays, if_pos hw, if_pos (recErr_ok hr), if_pos hg, if_pos h0] <;> rfl
  have hst := stay_iff (fun x => r.getD k.toNat 0 - x.getD k.toNat 0) (fun x => restP l k.toNat r - restP l k.toNat x) c (fits l w) ⟨0, 100000⟩
  have hall : (∀ x, x ∈ fits l w → (r.getD k.toNat 0 - x.getD k.toNat 0) * c + (restP l k.toNat r - restP l k.toNat x) ≤ 0) ↔ ∀ x, x ∈ fits l w → bdPrice (l.set k.toNat { y with price := c }) r ≤ bdPrice (l.set k.toNat { y with price := c }) x := by
    have at_ : ∀ x, RecOk l.length x → bdPrice (l.set k.toNat { y with price := c }) x = restP l k.toNat x + x.getD k.toNat 0 * c := fun x hx => by
      obtain ⟨n, hn⟩ : ∃ n, x[k.toNat]? = some n := ⟨_, List.getElem?_eq_getElem (by have := hx.len; omega)⟩
      rw [price_set l k.toNat c y x n hy hn, (rest_at hl hx hy hn).1, List.getD_eq_getElem?_getD, hn]; rfl
    constructor
    · intro h x hx
      have h1 := h x hx
      rw [at_ r hr, at_ x (fits_rec hl hx).1]
      rw [Int.sub_mul] at h1
      omega
    · intro h x hx
      have h1 := h x hx
      rw [at_ r hr, at_ x (fits_rec hl hx).1] at h1
      rw [Int.sub_mul]
      omega
  rw [← hall, hs]
  have hc' : ((⟨0, 100000⟩ : Span).lo ≤ c ∧ c ≤ (⟨0, 100000⟩ : Span).hi) := hc
  cases hg2 : stayGo (fun x => r.getD k.toNat 0 - x.getD k.toNat 0) (fun x => restP l k.toNat r - restP l k.toNat x) ⟨0, 100000⟩ (fits l w) with
  | none =>
    rw [hg2] at hst
    refine ⟨.inr rfl, ⟨fun h => (by cases h.1), fun h => ?_⟩⟩
    exact (hst.2 ⟨hc', h⟩).elim
  | some s =>
    rw [hg2] at hst
    dsimp only at hst ⊢
    split
    · rename_i hlt
      refine ⟨.inr rfl, ⟨fun h => (by cases h.1), fun h => ?_⟩⟩
      have := hst.2 ⟨hc', h⟩
      omega
    · exact ⟨.inl rfl, ⟨fun h => (hst.1 h.2).2, fun h => ⟨rfl, hst.2 ⟨hc', h⟩⟩⟩⟩
set_option maxHeartbeats 4000000 in
theorem lBlendStays (l : List BdWax) (w : BdWish) (a b : Int) (x : List Int) (hx : U16s x) (ha : 0 ≤ a ∧ a ≤ 255) (hb : 0 ≤ b ∧ b ≤ 4294967295) :
    PCall Try.prog 10 [bdWaxes l, w.pv, .agg [.int .u8 a, .int .u32 b, u16s x]] (.bool true) := by
  refine pcall_of_wp draws (fn := Try.f10) (n := 178) (rs := [.tmp 6]) (by kernel_rfl) rfl rfl rfl ok10 (Nat.le_of_ble_eq_true rfl) ?_
  simp (config := { maxSteps := 400000 }) only [go_sem, ↓reduceIte, reduceCtorEq, Nat.reduceEqDiff, Nat.reduceAdd, Nat.reduceLT, Nat.reduceLeDiff, Nat.reduceSub, Int.reduceToNat, Int.reduceLE, Int.reduceLT, Int.reduceNeg, Int.reduceBEq, Int.reduceBNe, Nat.reduceMul, Int.reduceAdd, Int.reduceMul, Int.reduceSub, Int.reduceEq, Int.reduceNe]
  (first | refine WF_pure (cRefWish l w) rfl ?_ | refine WDQ_pure (cRefWish l w) rfl ?_)
  simp (config := { maxSteps := 400000 }) only [go_sem, ↓reduceIte, reduceCtorEq, Nat.reduceEqDiff, Nat.reduceAdd, Nat.reduceLT, Nat.reduceLeDiff, Nat.reduceSub, Int.reduceToNat, Int.reduceLE, Int.reduceLT, Int.reduceNeg, Int.reduceBEq, Int.reduceBNe, Nat.reduceMul, Int.reduceAdd, Int.reduceMul, Int.reduceSub, Int.reduceEq, Int.reduceNe]
  refine WB_split (fun he => ?_) (fun he => ?_)
  · simp (config := { maxSteps := 400000 }) only [go_sem, ↓reduceIte, reduceCtorEq, Nat.reduceEqDiff, Nat.reduceAdd, Nat.reduceLT, Nat.reduceLeDiff, Nat.reduceSub, Int.reduceToNat, Int.reduceLE, Int.reduceLT, Int.reduceNeg, Int.reduceBEq, Int.reduceBNe, Nat.reduceMul, Int.reduceAdd, Int.reduceMul, Int.reduceSub, Int.reduceEq, Int.reduceNe]
    (first | refine WF_pure (cAwake) rfl ?_ | refine WDQ_pure (cAwake) rfl ?_)
    simp (config := { maxSteps := 400000 }) only [go_sem, ↓reduceIte, reduceCtorEq, Nat.reduceEqDiff, Nat.reduceAdd, Nat.reduceLT, Nat.reduceLeDiff, Nat.reduceSub, Int.reduceToNat, Int.reduceLE, Int.reduceLT, Int.reduceNeg, Int.reduceBEq, Int.reduceBNe, Nat.reduceMul, Int.reduceAdd, Int.reduceMul, Int.reduceSub, Int.reduceEq, Int.reduceNe]
  have he' : wishErr l w = 0 := by simpa using he
  obtain ⟨hl, hw⟩ := wishOk_of he'
  have hl5 := hl.len
  have hbe := wish_bdE he'
  have hr := parted_ok hx.1 hl.len.1
  have hw8 : IntKind.i64.wrap a = a := wrap_in (by omega) (by omega)
  have hlz : ¬ ((l.length : Nat) : Int) = 0 := by omega
  have hkm : a.tmod (l.length : Int) = a % (l.length : Int) := Int.tmod_eq_emod_of_nonneg ha.1
  have k1 := Int.emod_nonneg a hlz
  have k2 := Int.emod_lt_of_pos a (show 0 < (l.length : Int) by omega)
  have hcm : b.tmod 100001 = b % 100001 := Int.tmod_eq_emod_of_nonneg hb.1
  have c1 := Int.emod_nonneg b (show (100001 : Int) ≠ 0 by omega)
  have c2 := Int.emod_lt_of_pos b (show (0 : Int) < 100001 by omega)
  have hwc : IntKind.i64.wrap (b % 100001) = b % 100001 := wrap_in (by omega) (by omega)
  simp (config := { maxSteps := 400000 }) only [hw8, hlz, hkm, hcm, hwc, go_sem, ↓reduceIte, reduceCtorEq, Nat.reduceEqDiff, Nat.reduceAdd, Nat.reduceLT, Nat.reduceLeDiff, Nat.reduceSub, Int.reduceToNat, Int.reduceLE, Int.reduceLT, Int.reduceNeg, Int.reduceBEq, Int.reduceBNe, Nat.reduceMul, Int.reduceAdd, Int.reduceMul, Int.reduceSub, Int.reduceEq, Int.reduceNe]
  generalize a % (l.length : Int) = k at k1 k2
  generalize b % 100001 = c at c1 c2
  have hc : 0 ≤ c ∧ c ≤ 100000 := by omega
  obtain ⟨y, hy⟩ : ∃ y, l[k.toNat]? = some y := ⟨_, List.getElem?_eq_getElem (by omega)⟩
  have hbest := best_at he'
  (first | refine WF_pure (cCheapest l w) rfl ?_ | refine WDQ_pure (cCheapest l w) rfl ?_)
  rw [hbest]
  simp (config := { maxSteps := 400000 }) only [bestPV, go_sem, ↓reduceIte, reduceCtorEq, Nat.reduceEqDiff, Nat.reduceAdd, Nat.reduceLT, Nat.reduceLeDiff, Nat.reduceSub, Int.reduceToNat, Int.reduceLE, Int.reduceLT, Int.reduceNeg, Int.reduceBEq, Int.reduceBNe, Nat.reduceMul, Int.reduceAdd, Int.reduceMul, Int.reduceSub, Int.reduceEq, Int.reduceNe]
  (first | refine WF_pure (cParted l.length x false hl.len hx.1 hx.2) rfl ?_ | refine WDQ_pure (cParted l.length x false hl.len hx.1 hx.2) rfl ?_)
  simp (config := { maxSteps := 400000 }) only [go_sem, ↓reduceIte, reduceCtorEq, Nat.reduceEqDiff, Nat.reduceAdd, Nat.reduceLT, Nat.reduceLeDiff, Nat.reduceSub, Int.reduceToNat, Int.reduceLE, Int.reduceLT, Int.reduceNeg, Int.reduceBEq, Int.reduceBNe, Nat.reduceMul, Int.reduceAdd, Int.reduceMul, Int.reduceSub, Int.reduceEq, Int.reduceNe]
  cases hch : cheapGo (bdPrice l) none (fits l w) with
  | none =>
    have hnil := cheapGo_none _ hch
    have hno : ¬ whyS l w (parted l.length x) = 0 := fun h => by
      have := mem_fits (w := w) hl hr h
      rw [hnil] at this; cases this
    have hg : gIn k 0 ((l.length : Int) - 1) = true := by simp [gIn]; omega
    have hs : bdStays l w (parted l.length x) k = (⟨0, 0⟩, 9) := by rw [bdStays, if_pos he', if_pos (recErr_ok hr), if_pos hg, if_neg hno]
    cases hx0 : (((x.length : Nat) : Int) == 0)
    · simp (config := { maxSteps := 400000 }) only [hx0, go_sem, ↓reduceIte, reduceCtorEq, Nat.reduceEqDiff, Nat.reduceAdd, Nat.reduceLT, Nat.reduceLeDiff, Nat.reduceSub, Int.reduceToNat, Int.reduceLE, Int.reduceLT, Int.reduceNeg, Int.reduceBEq, Int.reduceBNe, Nat.reduceMul, Int.reduceAdd, Int.reduceMul, Int.reduceSub, Int.reduceEq, Int.reduceNe]
      (first | refine WF_pure (cStays l w (parted l.length x) false k) rfl ?_ | refine WDQ_pure (cStays l w (parted l.length x) false k) rfl ?_)
      simp (config := { maxSteps := 400000 }) only [staysPV, hs, go_sem, ↓reduceIte, reduceCtorEq, Nat.reduceEqDiff, Nat.reduceAdd, Nat.reduceLT, Nat.reduceLeDiff, Nat.reduceSub, Int.reduceToNat, Int.reduceLE, Int.reduceLT, Int.reduceNeg, Int.reduceBEq, Int.reduceBNe, Nat.reduceMul, Int.reduceAdd, Int.reduceMul, Int.reduceSub, Int.reduceEq, Int.reduceNe]
      (first | refine WF_pure (cAwake) rfl ?_ | refine WDQ_pure (cAwake) rfl ?_)
      simp (config := { maxSteps := 400000 }) only [go_sem, ↓reduceIte, reduceCtorEq, Nat.reduceEqDiff, Nat.reduceAdd, Nat.reduceLT, Nat.reduceLeDiff, Nat.reduceSub, Int.reduceToNat, Int.reduceLE, Int.reduceLT, Int.reduceNeg, Int.reduceBEq, Int.reduceBNe, Nat.reduceMul, Int.reduceAdd, Int.reduceMul, Int.reduceSub, Int.reduceEq, Int.reduceNe]
    · simp (config := { maxSteps := 400000 }) only [hx0, go_sem, ↓reduceIte, reduceCtorEq, Nat.reduceEqDiff, Nat.reduceAdd, Nat.reduceLT, Nat.reduceLeDiff, Nat.reduceSub, Int.reduceToNat, Int.reduceLE, Int.reduceLT, Int.reduceNeg, Int.reduceBEq, Int.reduceBNe, Nat.reduceMul, Int.reduceAdd, Int.reduceMul, Int.reduceSub, Int.reduceEq, Int.reduceNe]
      (first | refine WF_pure (cStays l w (parted l.length x) false k) rfl ?_ | refine WDQ_pure (cStays l w (parted l.length x) false k) rfl ?_)
      simp (config := { maxSteps := 400000 }) only [staysPV, hs, go_sem, ↓reduceIte, reduceCtorEq, Nat.reduceEqDiff, Nat.reduceAdd, Nat.reduceLT, Nat.reduceLeDiff, Nat.reduceSub, Int.reduceToNat, Int.reduceLE, Int.reduceLT, Int.reduceNeg, Int.reduceBEq, Int.reduceBNe, Nat.reduceMul, Int.reduceAdd, Int.reduceMul, Int.reduceSub, Int.reduceEq, Int.reduceNe]
      (first | refine WF_pure (cAwake) rfl ?_ | refine WDQ_pure (cAwake) rfl ?_)
      simp (config := { maxSteps := 400000 }) only [go_sem, ↓reduceIte, reduceCtorEq, Nat.reduceEqDiff, Nat.reduceAdd, Nat.reduceLT, Nat.reduceLeDiff, Nat.reduceSub, Int.reduceToNat, Int.reduceLE, Int.reduceLT, Int.reduceNeg, Int.reduceBEq, Int.reduceBNe, Nat.reduceMul, Int.reduceAdd, Int.reduceMul, Int.reduceSub, Int.reduceEq, Int.reduceNe]
  | some bst =>
    have hbin := cheapGo_in _ hch
    have hbo := fits_rec hl hbin
    have hbm := (cheapGo_min _ _ _ _ hch).1
    have hob := priced_bdE hbe hy hc
    have hol := priced_ok hl hy hc
    obtain ⟨m, hmd⟩ : ∃ m, m = l.set k.toNat { y with price := c } := ⟨_, rfl⟩
    have how : wishErr m w = 0 := by rw [hmd]; exact wish_of he' hob (by simp)
    have hmbest := best_at how
    have hfm : fits m w = fits l w := by rw [hmd]; exact fits_set c w hy
    rw [hfm] at hmbest
    cases hcm2 : cheapGo (bdPrice m) none (fits l w) with
    | none =>
      have := cheapGo_none _ hcm2
      rw [this] at hbin; cases hbin
    | some b2 =>
      rw [hcm2] at hmbest
      dsimp only at hmbest
      have hb2in := cheapGo_in _ hcm2
      have hb2m := (cheapGo_min _ _ _ _ hcm2).1
      have hlen2 : m.length = l.length := by rw [hmd]; simp
      have hm5 : BdWaxesOk m := by rw [hmd]; exact hol
      have key : ∀ r0, RecOk l.length r0 → whyS l w r0 = 0 → ((bdStays l w r0 k).2 = 0 ∨ (bdStays l w r0 k).2 = 9) ∧ ((bdPrice m r0 == bdPrice m b2) = (decide ((bdStays l w r0 k).2 = 0) && (decide ((bdStays l w r0 k).1.lo ≤ c) && decide (c ≤ (bdStays l w r0 k).1.hi)))) := fun r0 h0 hw0 => by
        obtain ⟨h1, h2⟩ := stays_iff he' h0 hw0 ⟨k1, k2⟩ hy hc
        refine ⟨h1, ?_⟩
        rw [← hmd] at h2
        rw [Bool.eq_iff_iff]
        simp only [beq_iff_eq, Bool.and_eq_true, decide_eq_true_eq]
        rw [h2]
        constructor
        · intro h x hx
          rw [h]; exact hb2m x hx
        · intro h
          have h3 := h b2 hb2in
          have h4 := hb2m r0 (mem_fits hl h0 hw0)
          omega
      have own : (bdStays l w bst k).2 = 0 ∧ (bdStays l w bst k).1.lo ≤ y.price ∧ y.price ≤ (bdStays l w bst k).1.hi := by
        have hyp := (hl.wax y (List.mem_of_getElem? hy)).price
        refine (stays_iff he' hbo.1 hbo.2 ⟨k1, k2⟩ hy hyp).2.2 fun x hx => ?_
        have e : l.set k.toNat { y with price := y.price } = l := by
          obtain ⟨hk, he⟩ := List.getElem?_eq_some_iff.1 hy
          have : ({ y with price := y.price } : BdWax) = y := rfl
          rw [this, ← he]
          exact List.set_getElem_self hk
        rw [e]
        exact hbm x hx
      cases hx0 : (((x.length : Nat) : Int) == 0)
      · obtain ⟨r0, hr0⟩ : ∃ r0, r0 = parted l.length x := ⟨_, rfl⟩
        have hro : RecOk l.length r0 := by rw [hr0]; exact hr
        rw [← hr0]
        simp (config := { maxSteps := 400000 }) only [hx0, go_sem, ↓reduceIte, reduceCtorEq, Nat.reduceEqDiff, Nat.reduceAdd, Nat.reduceLT, Nat.reduceLeDiff, Nat.reduceSub, Int.reduceToNat, Int.reduceLE, Int.reduceLT, Int.reduceNeg, Int.reduceBEq, Int.reduceBNe, Nat.reduceMul, Int.reduceAdd, Int.reduceMul, Int.reduceSub, Int.reduceEq, Int.reduceNe]
        (first | refine WF_pure (cStays l w r0 false k) rfl ?_ | refine WDQ_pure (cStays l w r0 false k) rfl ?_)
        simp (config := { maxSteps := 400000 }) only [staysPV, go_sem, ↓reduceIte, reduceCtorEq, Nat.reduceEqDiff, Nat.reduceAdd, Nat.reduceLT, Nat.reduceLeDiff, Nat.reduceSub, Int.reduceToNat, Int.reduceLE, Int.reduceLT, Int.reduceNeg, Int.reduceBEq, Int.reduceBNe, Nat.reduceMul, Int.reduceAdd, Int.reduceMul, Int.reduceSub, Int.reduceEq, Int.reduceNe]
        (first | refine WF_pure (cFits l w r0 false) rfl ?_ | refine WDQ_pure (cFits l w r0 false) rfl ?_)
        simp (config := { maxSteps := 400000 }) only [pairPV, fits_at he' hro, go_sem, ↓reduceIte, reduceCtorEq, Nat.reduceEqDiff, Nat.reduceAdd, Nat.reduceLT, Nat.reduceLeDiff, Nat.reduceSub, Int.reduceToNat, Int.reduceLE, Int.reduceLT, Int.reduceNeg, Int.reduceBEq, Int.reduceBNe, Nat.reduceMul, Int.reduceAdd, Int.reduceMul, Int.reduceSub, Int.reduceEq, Int.reduceNe]
        (first | refine WF_pure (cRefPriced l k c y hl.len.2 k1 hy) rfl ?_ | refine WDQ_pure (cRefPriced l k c y hl.len.2 k1 hy) rfl ?_)
        rw [← hmd]
        simp (config := { maxSteps := 400000 }) only [go_sem, ↓reduceIte, reduceCtorEq, Nat.reduceEqDiff, Nat.reduceAdd, Nat.reduceLT, Nat.reduceLeDiff, Nat.reduceSub, Int.reduceToNat, Int.reduceLE, Int.reduceLT, Int.reduceNeg, Int.reduceBEq, Int.reduceBNe, Nat.reduceMul, Int.reduceAdd, Int.reduceMul, Int.reduceSub, Int.reduceEq, Int.reduceNe]
        (first | refine WF_pure (cCheapest m w) rfl ?_ | refine WDQ_pure (cCheapest m w) rfl ?_)
        simp (config := { maxSteps := 400000 }) only [bestPV, hmbest, go_sem, ↓reduceIte, reduceCtorEq, Nat.reduceEqDiff, Nat.reduceAdd, Nat.reduceLT, Nat.reduceLeDiff, Nat.reduceSub, Int.reduceToNat, Int.reduceLE, Int.reduceLT, Int.reduceNeg, Int.reduceBEq, Int.reduceBNe, Nat.reduceMul, Int.reduceAdd, Int.reduceMul, Int.reduceSub, Int.reduceEq, Int.reduceNe]
        (first | refine WF_pure (cRefRecipe l.length r0 false hl.len.2) rfl ?_ | refine WDQ_pure (cRefRecipe l.length r0 false hl.len.2) rfl ?_)
        simp (config := { maxSteps := 400000 }) only [recErr_ok hro, go_sem, ↓reduceIte, reduceCtorEq, Nat.reduceEqDiff, Nat.reduceAdd, Nat.reduceLT, Nat.reduceLeDiff, Nat.reduceSub, Int.reduceToNat, Int.reduceLE, Int.reduceLT, Int.reduceNeg, Int.reduceBEq, Int.reduceBNe, Nat.reduceMul, Int.reduceAdd, Int.reduceMul, Int.reduceSub, Int.reduceEq, Int.reduceNe]
        cases hwy : (whyS l w r0 != 0)
        rotate_left
        · have hwy' : ¬ whyS l w r0 = 0 := by simpa using hwy
          have hg : gIn k 0 ((l.length : Int) - 1) = true := by simp [gIn]; omega
          have hs : bdStays l w r0 k = (⟨0, 0⟩, 9) := by rw [bdStays, if_pos he', if_pos (recErr_ok hro), if_pos hg, if_neg hwy']
          simp (config := { maxSteps := 400000 }) only [hs, go_sem, ↓reduceIte, reduceCtorEq, Nat.reduceEqDiff, Nat.reduceAdd, Nat.reduceLT, Nat.reduceLeDiff, Nat.reduceSub, Int.reduceToNat, Int.reduceLE, Int.reduceLT, Int.reduceNeg, Int.reduceBEq, Int.reduceBNe, Nat.reduceMul, Int.reduceAdd, Int.reduceMul, Int.reduceSub, Int.reduceEq, Int.reduceNe]
          (first | refine WF_pure (cAwake) rfl ?_ | refine WDQ_pure (cAwake) rfl ?_)
          simp (config := { maxSteps := 400000 }) only [go_sem, ↓reduceIte, reduceCtorEq, Nat.reduceEqDiff, Nat.reduceAdd, Nat.reduceLT, Nat.reduceLeDiff, Nat.reduceSub, Int.reduceToNat, Int.reduceLE, Int.reduceLT, Int.reduceNeg, Int.reduceBEq, Int.reduceBNe, Nat.reduceMul, Int.reduceAdd, Int.reduceMul, Int.reduceSub, Int.reduceEq, Int.reduceNe]
        have hwy' : whyS l w r0 = 0 := by simpa using hwy
        obtain ⟨hf, hkey⟩ := key r0 hro hwy'
        have hown : r0 = bst → (bdStays l w r0 k).2 = 0 ∧ (bdStays l w r0 k).1.lo ≤ y.price ∧ y.price ≤ (bdStays l w r0 k).1.hi := fun h => by rw [h]; exact own
        generalize bdStays l w r0 k = S at hf hkey hown
        obtain ⟨⟨lo, hi⟩, f⟩ := S
        dsimp only at hf hkey hown
        have hpr : ∀ r : List Int, sumP fPrice (m.zip r) = bdPrice m r := fun r => rfl
        rcases hf with rfl | rfl
        · cases d1 : decide (lo ≤ c) <;> cases d2 : decide (c ≤ hi) <;> cases d3 : decide (lo ≤ y.price) <;> cases d4 : decide (y.price ≤ hi) <;>
          (first
            | (exfalso
               have := hown hr0
               simp at d3 d4
               omega)
            | (rw [d1, d2] at hkey
               simp (config := { maxSteps := 400000 }) only [k1, k2, hy, d1, d2, d3, d4, hx0, go_sem, ↓reduceIte, reduceCtorEq, Nat.reduceEqDiff, Nat.reduceAdd, Nat.reduceLT, Nat.reduceLeDiff, Nat.reduceSub, Int.reduceToNat, Int.reduceLE, Int.reduceLT, Int.reduceNeg, Int.reduceBEq, Int.reduceBNe, Nat.reduceMul, Int.reduceAdd, Int.reduceMul, Int.reduceSub, Int.reduceEq, Int.reduceNe]
               (first | refine WF_pure (cRefPriceZ false false hm5 (by rw [hlen2]; exact hro.len) hro.rng) rfl ?_ | refine WDQ_pure (cRefPriceZ false false hm5 (by rw [hlen2]; exact hro.len) hro.rng) rfl ?_)
               simp (config := { maxSteps := 400000 }) only [hpr, hkey, beq_self_eq_true, go_sem, ↓reduceIte, reduceCtorEq, Nat.reduceEqDiff, Nat.reduceAdd, Nat.reduceLT, Nat.reduceLeDiff, Nat.reduceSub, Int.reduceToNat, Int.reduceLE, Int.reduceLT, Int.reduceNeg, Int.reduceBEq, Int.reduceBNe, Nat.reduceMul, Int.reduceAdd, Int.reduceMul, Int.reduceSub, Int.reduceEq, Int.reduceNe]
               (first | refine WF_pure (cAwake) rfl ?_ | refine WDQ_pure (cAwake) rfl ?_)
               simp (config := { maxSteps := 400000 }) only [go_sem, ↓reduceIte, reduceCtorEq, Nat.reduceEqDiff, Nat.reduceAdd, Nat.reduceLT, Nat.reduceLeDiff, Nat.reduceSub, Int.reduceToNat, Int.reduceLE, Int.reduceLT, Int.reduceNeg, Int.reduceBEq, Int.reduceBNe, Nat.reduceMul, Int.reduceAdd, Int.reduceMul, Int.reduceSub, Int.reduceEq, Int.reduceNe]))
        · first
            | (exfalso; have := hown hr0; simp at this; done)
            | (simp (config := { maxSteps := 400000 }) only [k1, k2, hy, hx0, go_sem, ↓reduceIte, reduceCtorEq, Nat.reduceEqDiff, Nat.reduceAdd, Nat.reduceLT, Nat.reduceLeDiff, Nat.reduceSub, Int.reduceToNat, Int.reduceLE, Int.reduceLT, Int.reduceNeg, Int.reduceBEq, Int.reduceBNe, Nat.reduceMul, Int.reduceAdd, Int.reduceMul, Int.reduceSub, Int.reduceEq, Int.reduceNe]
               (first | refine WF_pure (cRefPriceZ false false hm5 (by rw [hlen2]; exact hro.len) hro.rng) rfl ?_ | refine WDQ_pure (cRefPriceZ false false hm5 (by rw [hlen2]; exact hro.len) hro.rng) rfl ?_)
               simp (config := { maxSteps := 400000 }) only [hpr, hkey, beq_self_eq_true, go_sem, ↓reduceIte, reduceCtorEq, Nat.reduceEqDiff, Nat.reduceAdd, Nat.reduceLT, Nat.reduceLeDiff, Nat.reduceSub, Int.reduceToNat, Int.reduceLE, Int.reduceLT, Int.reduceNeg, Int.reduceBEq, Int.reduceBNe, Nat.reduceMul, Int.reduceAdd, Int.reduceMul, Int.reduceSub, Int.reduceEq, Int.reduceNe]
               (first | refine WF_pure (cAwake) rfl ?_ | refine WDQ_pure (cAwake) rfl ?_)
               simp (config := { maxSteps := 400000 }) only [go_sem, ↓reduceIte, reduceCtorEq, Nat.reduceEqDiff, Nat.reduceAdd, Nat.reduceLT, Nat.reduceLeDiff, Nat.reduceSub, Int.reduceToNat, Int.reduceLE, Int.reduceLT, Int.reduceNeg, Int.reduceBEq, Int.reduceBNe, Nat.reduceMul, Int.reduceAdd, Int.reduceMul, Int.reduceSub, Int.reduceEq, Int.reduceNe])
      · obtain ⟨r0, hr0⟩ : ∃ r0, r0 = bst := ⟨_, rfl⟩
        have hro : RecOk l.length r0 := by rw [hr0]; exact hbo.1
        rw [← hr0]
        simp (config := { maxSteps := 400000 }) only [hx0, go_sem, ↓reduceIte, reduceCtorEq, Nat.reduceEqDiff, Nat.reduceAdd, Nat.reduceLT, Nat.reduceLeDiff, Nat.reduceSub, Int.reduceToNat, Int.reduceLE, Int.reduceLT, Int.reduceNeg, Int.reduceBEq, Int.reduceBNe, Nat.reduceMul, Int.reduceAdd, Int.reduceMul, Int.reduceSub, Int.reduceEq, Int.reduceNe]
        (first | refine WF_pure (cStays l w r0 false k) rfl ?_ | refine WDQ_pure (cStays l w r0 false k) rfl ?_)
        simp (config := { maxSteps := 400000 }) only [staysPV, go_sem, ↓reduceIte, reduceCtorEq, Nat.reduceEqDiff, Nat.reduceAdd, Nat.reduceLT, Nat.reduceLeDiff, Nat.reduceSub, Int.reduceToNat, Int.reduceLE, Int.reduceLT, Int.reduceNeg, Int.reduceBEq, Int.reduceBNe, Nat.reduceMul, Int.reduceAdd, Int.reduceMul, Int.reduceSub, Int.reduceEq, Int.reduceNe]
        (first | refine WF_pure (cFits l w r0 false) rfl ?_ | refine WDQ_pure (cFits l w r0 false) rfl ?_)
        simp (config := { maxSteps := 400000 }) only [pairPV, fits_at he' hro, go_sem, ↓reduceIte, reduceCtorEq, Nat.reduceEqDiff, Nat.reduceAdd, Nat.reduceLT, Nat.reduceLeDiff, Nat.reduceSub, Int.reduceToNat, Int.reduceLE, Int.reduceLT, Int.reduceNeg, Int.reduceBEq, Int.reduceBNe, Nat.reduceMul, Int.reduceAdd, Int.reduceMul, Int.reduceSub, Int.reduceEq, Int.reduceNe]
        (first | refine WF_pure (cRefPriced l k c y hl.len.2 k1 hy) rfl ?_ | refine WDQ_pure (cRefPriced l k c y hl.len.2 k1 hy) rfl ?_)
        rw [← hmd]
        simp (config := { maxSteps := 400000 }) only [go_sem, ↓reduceIte, reduceCtorEq, Nat.reduceEqDiff, Nat.reduceAdd, Nat.reduceLT, Nat.reduceLeDiff, Nat.reduceSub, Int.reduceToNat, Int.reduceLE, Int.reduceLT, Int.reduceNeg, Int.reduceBEq, Int.reduceBNe, Nat.reduceMul, Int.reduceAdd, Int.reduceMul, Int.reduceSub, Int.reduceEq, Int.reduceNe]
        (first | refine WF_pure (cCheapest m w) rfl ?_ | refine WDQ_pure (cCheapest m w) rfl ?_)
        simp (config := { maxSteps := 400000 }) only [bestPV, hmbest, go_sem, ↓reduceIte, reduceCtorEq, Nat.reduceEqDiff, Nat.reduceAdd, Nat.reduceLT, Nat.reduceLeDiff, Nat.reduceSub, Int.reduceToNat, Int.reduceLE, Int.reduceLT, Int.reduceNeg, Int.reduceBEq, Int.reduceBNe, Nat.reduceMul, Int.reduceAdd, Int.reduceMul, Int.reduceSub, Int.reduceEq, Int.reduceNe]
        (first | refine WF_pure (cRefRecipe l.length r0 false hl.len.2) rfl ?_ | refine WDQ_pure (cRefRecipe l.length r0 false hl.len.2) rfl ?_)
        simp (config := { maxSteps := 400000 }) only [recErr_ok hro, go_sem, ↓reduceIte, reduceCtorEq, Nat.reduceEqDiff, Nat.reduceAdd, Nat.reduceLT, Nat.reduceLeDiff, Nat.reduceSub, Int.reduceToNat, Int.reduceLE, Int.reduceLT, Int.reduceNeg, Int.reduceBEq, Int.reduceBNe, Nat.reduceMul, Int.reduceAdd, Int.reduceMul, Int.reduceSub, Int.reduceEq, Int.reduceNe]
        cases hwy : (whyS l w r0 != 0)
        rotate_left
        · have hwy' : ¬ whyS l w r0 = 0 := by simpa using hwy
          have hg : gIn k 0 ((l.length : Int) - 1) = true := by simp [gIn]; omega
          have hs : bdStays l w r0 k = (⟨0, 0⟩, 9) := by rw [bdStays, if_pos he', if_pos (recErr_ok hro), if_pos hg, if_neg hwy']
          simp (config := { maxSteps := 400000 }) only [hs, go_sem, ↓reduceIte, reduceCtorEq, Nat.reduceEqDiff, Nat.reduceAdd, Nat.reduceLT, Nat.reduceLeDiff, Nat.reduceSub, Int.reduceToNat, Int.reduceLE, Int.reduceLT, Int.reduceNeg, Int.reduceBEq, Int.reduceBNe, Nat.reduceMul, Int.reduceAdd, Int.reduceMul, Int.reduceSub, Int.reduceEq, Int.reduceNe]
          (first | refine WF_pure (cAwake) rfl ?_ | refine WDQ_pure (cAwake) rfl ?_)
          simp (config := { maxSteps := 400000 }) only [go_sem, ↓reduceIte, reduceCtorEq, Nat.reduceEqDiff, Nat.reduceAdd, Nat.reduceLT, Nat.reduceLeDiff, Nat.reduceSub, Int.reduceToNat, Int.reduceLE, Int.reduceLT, Int.reduceNeg, Int.reduceBEq, Int.reduceBNe, Nat.reduceMul, Int.reduceAdd, Int.reduceMul, Int.reduceSub, Int.reduceEq, Int.reduceNe]
        have hwy' : whyS l w r0 = 0 := by simpa using hwy
        obtain ⟨hf, hkey⟩ := key r0 hro hwy'
        have hown : r0 = bst → (bdStays l w r0 k).2 = 0 ∧ (bdStays l w r0 k).1.lo ≤ y.price ∧ y.price ≤ (bdStays l w r0 k).1.hi := fun h => by rw [h]; exact own
        generalize bdStays l w r0 k = S at hf hkey hown
        obtain ⟨⟨lo, hi⟩, f⟩ := S
        dsimp only at hf hkey hown
        have hpr : ∀ r : List Int, sumP fPrice (m.zip r) = bdPrice m r := fun r => rfl
        rcases hf with rfl | rfl
        · cases d1 : decide (lo ≤ c) <;> cases d2 : decide (c ≤ hi) <;> cases d3 : decide (lo ≤ y.price) <;> cases d4 : decide (y.price ≤ hi) <;>
          (first
            | (exfalso
               have := hown hr0
               simp at d3 d4
               omega)
            | (rw [d1, d2] at hkey
               simp (config := { maxSteps := 400000 }) only [k1, k2, hy, d1, d2, d3, d4, hx0, go_sem, ↓reduceIte, reduceCtorEq, Nat.reduceEqDiff, Nat.reduceAdd, Nat.reduceLT, Nat.reduceLeDiff, Nat.reduceSub, Int.reduceToNat, Int.reduceLE, Int.reduceLT, Int.reduceNeg, Int.reduceBEq, Int.reduceBNe, Nat.reduceMul, Int.reduceAdd, Int.reduceMul, Int.reduceSub, Int.reduceEq, Int.reduceNe]
               (first | refine WF_pure (cRefPriceZ false false hm5 (by rw [hlen2]; exact hro.len) hro.rng) rfl ?_ | refine WDQ_pure (cRefPriceZ false false hm5 (by rw [hlen2]; exact hro.len) hro.rng) rfl ?_)
               simp (config := { maxSteps := 400000 }) only [hpr, hkey, beq_self_eq_true, go_sem, ↓reduceIte, reduceCtorEq, Nat.reduceEqDiff, Nat.reduceAdd, Nat.reduceLT, Nat.reduceLeDiff, Nat.reduceSub, Int.reduceToNat, Int.reduceLE, Int.reduceLT, Int.reduceNeg, Int.reduceBEq, Int.reduceBNe, Nat.reduceMul, Int.reduceAdd, Int.reduceMul, Int.reduceSub, Int.reduceEq, Int.reduceNe]
               (first | refine WF_pure (cAwake) rfl ?_ | refine WDQ_pure (cAwake) rfl ?_)
               simp (config := { maxSteps := 400000 }) only [go_sem, ↓reduceIte, reduceCtorEq, Nat.reduceEqDiff, Nat.reduceAdd, Nat.reduceLT, Nat.reduceLeDiff, Nat.reduceSub, Int.reduceToNat, Int.reduceLE, Int.reduceLT, Int.reduceNeg, Int.reduceBEq, Int.reduceBNe, Nat.reduceMul, Int.reduceAdd, Int.reduceMul, Int.reduceSub, Int.reduceEq, Int.reduceNe]))
        · first
            | (exfalso; have := hown hr0; simp at this; done)
            | (simp (config := { maxSteps := 400000 }) only [k1, k2, hy, hx0, go_sem, ↓reduceIte, reduceCtorEq, Nat.reduceEqDiff, Nat.reduceAdd, Nat.reduceLT, Nat.reduceLeDiff, Nat.reduceSub, Int.reduceToNat, Int.reduceLE, Int.reduceLT, Int.reduceNeg, Int.reduceBEq, Int.reduceBNe, Nat.reduceMul, Int.reduceAdd, Int.reduceMul, Int.reduceSub, Int.reduceEq, Int.reduceNe]
               (first | refine WF_pure (cRefPriceZ false false hm5 (by rw [hlen2]; exact hro.len) hro.rng) rfl ?_ | refine WDQ_pure (cRefPriceZ false false hm5 (by rw [hlen2]; exact hro.len) hro.rng) rfl ?_)
               simp (config := { maxSteps := 400000 }) only [hpr, hkey, beq_self_eq_true, go_sem, ↓reduceIte, reduceCtorEq, Nat.reduceEqDiff, Nat.reduceAdd, Nat.reduceLT, Nat.reduceLeDiff, Nat.reduceSub, Int.reduceToNat, Int.reduceLE, Int.reduceLT, Int.reduceNeg, Int.reduceBEq, Int.reduceBNe, Nat.reduceMul, Int.reduceAdd, Int.reduceMul, Int.reduceSub, Int.reduceEq, Int.reduceNe]
               (first | refine WF_pure (cAwake) rfl ?_ | refine WDQ_pure (cAwake) rfl ?_)
               simp (config := { maxSteps := 400000 }) only [go_sem, ↓reduceIte, reduceCtorEq, Nat.reduceEqDiff, Nat.reduceAdd, Nat.reduceLT, Nat.reduceLeDiff, Nat.reduceSub, Int.reduceToNat, Int.reduceLE, Int.reduceLT, Int.reduceNeg, Int.reduceBEq, Int.reduceBNe, Nat.reduceMul, Int.reduceAdd, Int.reduceMul, Int.reduceSub, Int.reduceEq, Int.reduceNe])
end Abs
end Go.Proofs.Ythekmbikolpmlaa
