/-
  CONTRACTS: the law BlendLess.
-/
import Derived.Test.YthekmbikolpmlaaBdLaw7
namespace Go.Proofs.Ythekmbikolpmlaa
namespace Abs
set_option linter.unusedSimpArgs false
set_option linter.unusedVariables false
set_option linter.unusedSectionVars false
set_option maxRecDepth 100000

/-! lists changed place by place -/
def goI {α : Type} (f : Nat → α → α) : Nat → List α → List α
  | _, [] => []
  | i, x :: r => f i x :: goI f (i + 1) r
theorem goI_len {α : Type} (f : Nat → α → α) : ∀ (l : List α) (i : Nat), (goI f i l).length = l.length
  | [], _ => rfl
  | x :: r, i => by rw [goI, List.length_cons, goI_len f r, List.length_cons]
theorem goI_map {α β : Type} (f : Nat → α → α) (g : α → β) (h : ∀ i x, g (f i x) = g x) : ∀ (l : List α) (i : Nat), (goI f i l).map g = l.map g
  | [], _ => rfl
  | x :: r, i => by rw [goI, List.map_cons, List.map_cons, h, goI_map f g h r]
theorem goI_mem {α : Type} (f : Nat → α → α) {y : α} : ∀ (l : List α) (i : Nat), y ∈ goI f i l → ∃ j x, x ∈ l ∧ y = f j x
  | [], _, h => by cases h
  | x :: r, i, h => by
    rcases List.mem_cons.1 h with rfl | h
    · exact ⟨i, x, by simp, rfl⟩
    · obtain ⟨j, z, hz, e⟩ := goI_mem f r (i + 1) h
      exact ⟨j, z, by simp [hz], e⟩
theorem goI_snoc {α : Type} (f : Nat → α → α) (x : α) : ∀ (l : List α) (i : Nat), goI f i (l ++ [x]) = goI f i l ++ [f (i + l.length) x]
  | [], i => rfl
  | y :: r, i => by
    rw [List.cons_append, goI, goI, goI_snoc f x r, List.cons_append, List.length_cons]
    have e : i + 1 + r.length = i + (r.length + 1) := by omega
    rw [e]
theorem goI_sum_le (f : Nat → BdWax → BdWax) (F G : BdWax × Int → Int) (h : ∀ i x n, BdWaxOk x → 0 ≤ n → F (x, n) ≤ G (f i x, n)) : ∀ (l : List BdWax) (r : List Int) (i : Nat), (∀ x, x ∈ l → BdWaxOk x) → (∀ n, n ∈ r → 0 ≤ n) → sumP F (l.zip r) ≤ sumP G ((goI f i l).zip r)
  | [], _, _, _, _ => by simp [sumP, goI]
  | x :: l, [], _, _, _ => by simp [sumP, goI]
  | x :: l, n :: r, i, hl, hr => by
    have ih := goI_sum_le f F G h l r (i + 1) (fun y hy => hl y (by simp [hy])) fun m hm => hr m (by simp [hm])
    have := h i x n (hl x (by simp)) (hr n (by simp))
    simp only [sumP, goI, List.zip_cons_cons, List.map_cons, List.sum_cons] at ih ⊢
    omega
theorem goI_sum_ge (f : Nat → BdWax → BdWax) (F G : BdWax × Int → Int) (h : ∀ i x n, BdWaxOk x → 0 ≤ n → G (f i x, n) ≤ F (x, n)) : ∀ (l : List BdWax) (r : List Int) (i : Nat), (∀ x, x ∈ l → BdWaxOk x) → (∀ n, n ∈ r → 0 ≤ n) → sumP G ((goI f i l).zip r) ≤ sumP F (l.zip r)
  | [], _, _, _, _ => by simp [sumP, goI]
  | x :: l, [], _, _, _ => by simp [sumP, goI]
  | x :: l, n :: r, i, hl, hr => by
    have ih := goI_sum_ge f F G h l r (i + 1) (fun y hy => hl y (by simp [hy])) fun m hm => hr m (by simp [hm])
    have := h i x n (hl x (by simp)) (hr n (by simp))
    simp only [sumP, goI, List.zip_cons_cons, List.map_cons, List.sum_cons] at ih ⊢
    omega
theorem why_zero {l : List BdWax} {w : BdWish} {r : List Int} : whyS l w r = 0 ↔ partsOut w r = false ∧ 20 * w.melt.lo ≤ (meltP (l.zip r)).lo ∧ (meltP (l.zip r)).hi ≤ 20 * w.melt.hi ∧ 20 * w.shrink.lo ≤ (shrinkP (l.zip r)).lo ∧ (shrinkP (l.zip r)).hi ≤ 20 * w.shrink.hi := by
  unfold whyS
  constructor
  · intro h
    split at h
    · cases h
    · rename_i h1
      split at h
      · cases h
      · split at h
        · cases h
        · split at h
          · cases h
          · refine ⟨by simpa using h1, by omega, by omega, by omega, by omega⟩
  · rintro ⟨h1, h2, h3, h4, h5⟩
    rw [if_neg (by simp [h1]), if_neg (by omega), if_neg (by omega), if_neg (by omega)]

/-! the changed data -/
def fineW (T : Nat → Int) (i : Nat) (x : BdWax) : BdWax :=
  { x with melt := ⟨amongS x.melt (T i), amongS ⟨amongS x.melt (T i), x.melt.hi⟩ (T (i + 2))⟩, shrink := ⟨amongS x.shrink (T (i + 1)), amongS ⟨amongS x.shrink (T (i + 1)), x.shrink.hi⟩ (T (i + 3))⟩ }
def dearW (T : Nat → Int) (i : Nat) (x : BdWax) : BdWax := { x with price := if x.price + T i < 100000 then x.price + T i else 100000 }
def wideP (T : Nat → Int) (i : Nat) (p : Span) : Span := ⟨if 0 < p.lo - T i % 3 then p.lo - T i % 3 else 0, if p.hi + T i % 5 < 20 then p.hi + T i % 5 else 20⟩
def wideW (T : Nat → Int) (w : BdWish) : BdWish :=
  ⟨goI (wideP T) 0 w.parts, ⟨if 0 < w.melt.lo - T 0 then w.melt.lo - T 0 else 0, if w.melt.hi + T 1 < 2000 then w.melt.hi + T 1 else 2000⟩, ⟨if 0 < w.shrink.lo - T 2 then w.shrink.lo - T 2 else 0, if w.shrink.hi + T 3 < 1000 then w.shrink.hi + T 3 else 1000⟩⟩
section
variable {T : Nat → Int} (hT : ∀ i, 0 ≤ T i)
include hT
theorem fineW_in {x : BdWax} (hx : BdWaxOk x) (i : Nat) : (x.melt.lo ≤ (fineW T i x).melt.lo ∧ (fineW T i x).melt.lo ≤ (fineW T i x).melt.hi ∧ (fineW T i x).melt.hi ≤ x.melt.hi) ∧ (x.shrink.lo ≤ (fineW T i x).shrink.lo ∧ (fineW T i x).shrink.lo ≤ (fineW T i x).shrink.hi ∧ (fineW T i x).shrink.hi ≤ x.shrink.hi) := by
  have h1 := amongS_in hx.melt.2.1 (hT i)
  have h2 := amongS_in (s := ⟨amongS x.melt (T i), x.melt.hi⟩) h1.2 (hT (i + 2))
  have h3 := amongS_in hx.shrink.2.1 (hT (i + 1))
  have h4 := amongS_in (s := ⟨amongS x.shrink (T (i + 1)), x.shrink.hi⟩) h3.2 (hT (i + 3))
  exact ⟨⟨h1.1, h2.1, h2.2⟩, h3.1, h4.1, h4.2⟩
theorem fineW_ok {x : BdWax} (hx : BdWaxOk x) (i : Nat) : BdWaxOk (fineW T i x) := by
  have h := fineW_in hT hx i
  have h1 := hx.melt
  have h2 := hx.shrink
  exact ⟨hx.price, by omega, by omega, hx.curve⟩
theorem dearW_ok {x : BdWax} (hx : BdWaxOk x) (i : Nat) : BdWaxOk (dearW T i x) := by
  have h := hT i
  have h1 := hx.price
  refine ⟨?_, hx.melt, hx.shrink, hx.curve⟩
  simp only [dearW]
  split <;> omega
theorem fine_bdE {l : List BdWax} (hl : bdE l = 0) : bdE (goI (fineW T) 0 l) = 0 := by
  refine bdE_map hl (goI_map (fineW T) _ (fun i x => rfl) l 0) fun x hx => ?_
  obtain ⟨j, y, hy, rfl⟩ := goI_mem _ _ _ hx
  exact base_ok (fineW_ok hT ((bdWaxesOk_of hl).wax y hy) j) (show curveErr y.curve = 0 from base_curve (((bdE_iff l).1 hl).2.1 y hy).2)
theorem dear_bdE {l : List BdWax} (hl : bdE l = 0) : bdE (goI (dearW T) 0 l) = 0 := by
  refine bdE_map hl (goI_map (dearW T) _ (fun i x => rfl) l 0) fun x hx => ?_
  obtain ⟨j, y, hy, rfl⟩ := goI_mem _ _ _ hx
  exact base_ok (dearW_ok hT ((bdWaxesOk_of hl).wax y hy) j) (show curveErr y.curve = 0 from base_curve (((bdE_iff l).1 hl).2.1 y hy).2)
theorem fine_why {l : List BdWax} {w : BdWish} {r : List Int} (hl : BdWaxesOk l) (hr : RecOk l.length r) (h : whyS l w r = 0) : whyS (goI (fineW T) 0 l) w r = 0 := by
  obtain ⟨h1, h2, h3, h4, h5⟩ := why_zero.1 h
  have hr0 : ∀ n, n ∈ r → 0 ≤ n := fun n hn => (hr.rng n hn).1
  have s1 := goI_sum_le (fineW T) fSoft fSoft (fun i x n hx hn => Int.mul_le_mul_of_nonneg_left (fineW_in hT hx i).1.1 hn) l r 0 hl.wax hr0
  have s2 := goI_sum_ge (fineW T) fHard fHard (fun i x n hx hn => Int.mul_le_mul_of_nonneg_left (fineW_in hT hx i).1.2.2 hn) l r 0 hl.wax hr0
  have s3 := goI_sum_le (fineW T) fLeast fLeast (fun i x n hx hn => Int.mul_le_mul_of_nonneg_left (fineW_in hT hx i).2.1 hn) l r 0 hl.wax hr0
  have s4 := goI_sum_ge (fineW T) fMost fMost (fun i x n hx hn => Int.mul_le_mul_of_nonneg_left (fineW_in hT hx i).2.2.2 hn) l r 0 hl.wax hr0
  have s5 := goI_sum_le (fineW T) fRaise fRaise (fun i x n hx hn => Int.le_refl _) l r 0 hl.wax hr0
  have s6 := goI_sum_ge (fineW T) fRaise fRaise (fun i x n hx hn => Int.le_refl _) l r 0 hl.wax hr0
  refine why_zero.2 ⟨h1, ?_⟩
  simp only [meltP, shrinkP] at h2 h3 h4 h5 ⊢
  omega
theorem dear_why {l : List BdWax} (w : BdWish) {r : List Int} (hl : BdWaxesOk l) (hr : RecOk l.length r) : whyS (goI (dearW T) 0 l) w r = whyS l w r := by
  have hr0 : ∀ n, n ∈ r → 0 ≤ n := fun n hn => (hr.rng n hn).1
  have key : ∀ F : BdWax × Int → Int, (∀ i x n, F (dearW T i x, n) = F (x, n)) → sumP F ((goI (dearW T) 0 l).zip r) = sumP F (l.zip r) := fun F hF => by
    have a := goI_sum_le (dearW T) F F (fun i x n _ _ => by rw [hF]; omega) l r 0 hl.wax hr0
    have b := goI_sum_ge (dearW T) F F (fun i x n _ _ => by rw [hF]; omega) l r 0 hl.wax hr0
    omega
  unfold whyS meltP shrinkP
  rw [key fSoft fun i x n => rfl, key fHard fun i x n => rfl, key fLeast fun i x n => rfl, key fMost fun i x n => rfl, key fRaise fun i x n => rfl]
theorem dear_fits {l : List BdWax} (w : BdWish) (hl : BdWaxesOk l) : fits (goI (dearW T) 0 l) w = fits l w := by
  unfold fits
  rw [goI_len]
  refine List.filter_congr fun r hr => ?_
  rw [dear_why hT w hl (recs_rec hl hr)]
theorem dear_price {l : List BdWax} {r : List Int} (hl : BdWaxesOk l) (hr : RecOk l.length r) : bdPrice l r ≤ bdPrice (goI (dearW T) 0 l) r := by
  refine goI_sum_le (dearW T) fPrice fPrice (fun i x n hx hn => Int.mul_le_mul_of_nonneg_left ?_ hn) l r 0 hl.wax fun n hn => (hr.rng n hn).1
  have := hT i
  have := hx.price
  simp only [dearW]
  split <;> omega
theorem wide_out : ∀ (ps : List Span) (r : List Int) (i : Nat), (∀ s, s ∈ ps → 0 ≤ s.lo ∧ s.lo ≤ s.hi ∧ s.hi ≤ 20) → ((r.zip ps).any fun q => !gIn q.1 q.2.lo q.2.hi) = false → ((r.zip (goI (wideP T) i ps)).any fun q => !gIn q.1 q.2.lo q.2.hi) = false
  | [], r, i, _, _ => by simp [goI]
  | p :: ps, [], i, _, _ => by simp
  | p :: ps, n :: r, i, hp, h => by
    rw [List.zip_cons_cons, List.any_cons, Bool.or_eq_false_iff] at h
    have ih := wide_out ps r (i + 1) (fun s hs => hp s (by simp [hs])) h.2
    have h1 : p.lo ≤ n ∧ n ≤ p.hi := by have := h.1; simp [gIn] at this; exact this
    have h2 := hp p (by simp)
    have t3 : 0 ≤ T i % 3 := Int.emod_nonneg _ (by omega)
    have t5 : 0 ≤ T i % 5 := Int.emod_nonneg _ (by omega)
    rw [goI, List.zip_cons_cons, List.any_cons, ih, Bool.or_false]
    have h3 : (wideP T i p).lo ≤ n := by simp only [wideP]; split <;> omega
    have h4 : n ≤ (wideP T i p).hi := by simp only [wideP]; split <;> omega
    simp [gIn, h3, h4]
theorem wide_why {l : List BdWax} {w : BdWish} {r : List Int} (hl : BdWaxesOk l) (hw : WishOk l.length w) (hr : RecOk l.length r) (h : whyS l w r = 0) : whyS l (wideW T w) r = 0 := by
  obtain ⟨h1, h2, h3, h4, h5⟩ := why_zero.1 h
  have hb := sums_bd (psOk_zip hl hr.rng)
  have t0 := hT 0
  have t1 := hT 1
  have t2 := hT 2
  have t3 := hT 3
  have m1 := hw.melt
  have m2 := hw.shrink
  refine why_zero.2 ⟨wide_out hT w.parts r 0 hw.parts h1, ?_⟩
  have e1 : (wideW T w).melt.lo ≤ w.melt.lo ∧ w.melt.hi ≤ (wideW T w).melt.hi := by simp only [wideW]; split <;> split <;> omega
  have e2 : (wideW T w).shrink.lo ≤ w.shrink.lo ∧ w.shrink.hi ≤ (wideW T w).shrink.hi := by simp only [wideW]; split <;> split <;> omega
  omega
theorem wide_wish {l : List BdWax} {w : BdWish} (h : wishErr l w = 0) : wishErr l (wideW T w) = 0 := by
  obtain ⟨hl, hw⟩ := wishOk_of h
  have hlen : (wideW T w).parts.length = l.length := by simp only [wideW]; rw [goI_len]; exact hw.len
  rw [wishErr, if_pos (wish_bdE h), if_pos hlen]
  have t0 := hT 0
  have t1 := hT 1
  have t2 := hT 2
  have t3 := hT 3
  have m1 := hw.melt
  have m2 := hw.shrink
  have a1 : 0 ≤ (wideW T w).melt.lo ∧ (wideW T w).melt.lo ≤ (wideW T w).melt.hi ∧ (wideW T w).melt.hi ≤ 2000 := by simp only [wideW]; split <;> split <;> omega
  have a2 : 0 ≤ (wideW T w).shrink.lo ∧ (wideW T w).shrink.lo ≤ (wideW T w).shrink.hi ∧ (wideW T w).shrink.hi ≤ 1000 := by simp only [wideW]; split <;> split <;> omega
  have a3 : ∀ s, s ∈ (wideW T w).parts → 0 ≤ s.lo ∧ s.lo ≤ s.hi ∧ s.hi ≤ 20 := fun s hs => by
    obtain ⟨j, p, hp, rfl⟩ := goI_mem _ _ _ hs
    have hpp := hw.parts p hp
    have t3 : 0 ≤ T j % 3 := Int.emod_nonneg _ (by omega)
    have t5 : 0 ≤ T j % 5 := Int.emod_nonneg _ (by omega)
    simp only [wideP]
    split <;> split <;> omega
  have b1 : wishOut (wideW T w) = false := by simp [wishOut, inS, gIn]; omega
  have b2 : wishTurned (wideW T w) = false := by simp [wishTurned, turnedS]; omega
  have b3 : ((wideW T w).parts.any fun s => !inS s 0 20) = false := by
    rw [List.any_eq_false]
    intro s hs
    have := a3 s hs
    simp [inS, gIn]; omega
  have b4 : ((wideW T w).parts.any turnedS) = false := by
    rw [List.any_eq_false]
    intro s hs
    have := a3 s hs
    simp [turnedS]; omega
  rw [b1, b2, b3, b4]; rfl
end
theorem kill8 (a b c d e f g i : AObj) : killH (fun i => i == 7) [a, b, c, d, e, f, g, i] = [a, b, c, d, e, f, g, .dead] := rfl
theorem less_best {T : Nat → Int} (hT : ∀ i, 0 ≤ T i) {l : List BdWax} {w : BdWish} (h : wishErr l w = 0) :
    ((bdCheapest l w).2.2 = 9 ∧ (bdCheapest (goI (dearW T) 0 l) w).2.2 = 9 ∧ ((bdCheapest l (wideW T w)).2.2 = 0 ∨ (bdCheapest l (wideW T w)).2.2 = 9)) ∨
    ((bdCheapest l w).2.2 = 0 ∧ (bdCheapest l (wideW T w)).2.2 = 0 ∧ (bdCheapest (goI (dearW T) 0 l) w).2.2 = 0 ∧ (bdCheapest l (wideW T w)).2.1 ≤ (bdCheapest l w).2.1 ∧ (bdCheapest l w).2.1 ≤ (bdCheapest (goI (dearW T) 0 l) w).2.1) := by
  obtain ⟨hl, hw⟩ := wishOk_of h
  have hbe := wish_bdE h
  have hwl := hw.len
  have hdw : wishErr (goI (dearW T) 0 l) w = 0 := by
    have := h
    rw [wishErr, if_pos hbe, if_pos hwl] at this
    rw [wishErr, if_pos (dear_bdE hT hbe), if_pos (by rw [goI_len]; exact hwl)]; exact this
  have hww := wide_wish hT h
  rw [best_at h, best_at hww, best_at hdw, dear_fits hT w hl]
  cases h1 : cheapGo (bdPrice l) none (fits l w) with
  | none =>
    left
    have hn := cheapGo_none _ h1
    rw [hn]
    refine ⟨rfl, rfl, ?_⟩
    cases h2 : cheapGo (bdPrice l) none (fits l (wideW T w)) with
    | none => exact .inr rfl
    | some r => exact .inl rfl
  | some b =>
    right
    have hb := cheapGo_in _ h1
    obtain ⟨hb1, hb2⟩ := fits_rec hl hb
    have m1 := (cheapGo_min _ _ _ _ h1).1
    have hbw : b ∈ fits l (wideW T w) := mem_fits hl hb1 (wide_why hT hl hw hb1 hb2)
    cases h2 : cheapGo (bdPrice l) none (fits l (wideW T w)) with
    | none => rw [cheapGo_none _ h2] at hbw; cases hbw
    | some r =>
      have m2 := (cheapGo_min _ _ _ _ h2).1
      cases h3 : cheapGo (bdPrice (goI (dearW T) 0 l)) none (fits l w) with
      | none => rw [cheapGo_none _ h3] at hb; cases hb
      | some c =>
        have hc := cheapGo_in _ h3
        have a1 := m1 c hc
        have a2 := dear_price hT hl (fits_rec hl hc).1
        exact ⟨rfl, rfl, rfl, m2 b hbw, show bdPrice l b ≤ bdPrice (goI (dearW T) 0 l) c by omega⟩
set_option maxHeartbeats 4000000 in
theorem lBlendLess (l : List BdWax) (w : BdWish) (xs : List Int) (hx : U16s xs) : PCall Try.prog 12 [bdWaxes l, w.pv, u16s xs] (.bool true) := by
  refine pcall_of_wp draws (fn := Try.f12) (n := 251) (rs := [.tmp 6]) (by kernel_rfl) rfl rfl rfl ok12 (Nat.le_of_ble_eq_true rfl) ?_
  simp (config := { maxSteps := 400000 }) only [H12, W_drawH, go_sem, ↓reduceIte, reduceCtorEq, Nat.reduceEqDiff, Nat.reduceAdd, Nat.reduceLT, Nat.reduceLeDiff, Nat.reduceSub, Int.reduceToNat, Int.reduceLE, Int.reduceLT, Int.reduceNeg, Int.reduceBEq, Int.reduceBNe, Nat.reduceMul, Int.reduceAdd, Int.reduceMul, Int.reduceSub, Int.reduceEq, Int.reduceNe]
  (first | refine WF_pure (cRefWish l w) rfl ?_ | refine WDQ_pure (cRefWish l w) rfl ?_)
  simp (config := { maxSteps := 400000 }) only [H12, W_drawH, go_sem, ↓reduceIte, reduceCtorEq, Nat.reduceEqDiff, Nat.reduceAdd, Nat.reduceLT, Nat.reduceLeDiff, Nat.reduceSub, Int.reduceToNat, Int.reduceLE, Int.reduceLT, Int.reduceNeg, Int.reduceBEq, Int.reduceBNe, Nat.reduceMul, Int.reduceAdd, Int.reduceMul, Int.reduceSub, Int.reduceEq, Int.reduceNe]
  refine WB_split (fun he => ?_) (fun he => ?_)
  · simp (config := { maxSteps := 400000 }) only [go_sem, ↓reduceIte, reduceCtorEq, Nat.reduceEqDiff, Nat.reduceAdd, Nat.reduceLT, Nat.reduceLeDiff, Nat.reduceSub, Int.reduceToNat, Int.reduceLE, Int.reduceLT, Int.reduceNeg, Int.reduceBEq, Int.reduceBNe, Nat.reduceMul, Int.reduceAdd, Int.reduceMul, Int.reduceSub, Int.reduceEq, Int.reduceNe]
    (first | refine WF_pure (cAwake) rfl ?_ | refine WDQ_pure (cAwake) rfl ?_)
    simp (config := { maxSteps := 400000 }) only [H12, W_drawH, go_sem, ↓reduceIte, reduceCtorEq, Nat.reduceEqDiff, Nat.reduceAdd, Nat.reduceLT, Nat.reduceLeDiff, Nat.reduceSub, Int.reduceToNat, Int.reduceLE, Int.reduceLT, Int.reduceNeg, Int.reduceBEq, Int.reduceBNe, Nat.reduceMul, Int.reduceAdd, Int.reduceMul, Int.reduceSub, Int.reduceEq, Int.reduceNe]
  have he' : wishErr l w = 0 := by simpa using he
  obtain ⟨hl, hw⟩ := wishOk_of he'
  have hl5 := hl.len
  have hwl := hw.len
  have hbe := wish_bdE he'
  obtain ⟨T, hTd⟩ : ∃ T, T = turnS xs := ⟨_, rfl⟩
  have hTb : ∀ i, 0 ≤ T i ∧ T i ≤ 65535 := fun i => by rw [hTd]; exact turnS_bd hx.1 i
  have hT : ∀ i, 0 ≤ T i := fun i => (hTb i).1
  have m1 := hw.melt
  have m2 := hw.shrink
  have v0 := hTb 0
  have v1 := hTb 1
  have v2 := hTb 2
  have v3 := hTb 3
  have a0 : IntKind.i64.wrap (w.melt.lo - T 0) = w.melt.lo - T 0 := wrap_in (by omega) (by omega)
  have a1 : IntKind.i64.wrap (w.melt.hi + T 1) = w.melt.hi + T 1 := wrap_in (by omega) (by omega)
  have a2 : IntKind.i64.wrap (w.shrink.lo - T 2) = w.shrink.lo - T 2 := wrap_in (by omega) (by omega)
  have a3 : IntKind.i64.wrap (w.shrink.hi + T 3) = w.shrink.hi + T 3 := wrap_in (by omega) (by omega)
  have hturn : ∀ n : Nat, PCall Try.prog 46 [.slice 1 (xs.map u16) false, .int .i64 n] (.int .i64 (T n)) := fun n => by rw [hTd]; exact cTurn xs false n hx.1 hx.2
  simp (config := { maxSteps := 400000 }) only [H12, W_drawH, go_sem, ↓reduceIte, reduceCtorEq, Nat.reduceEqDiff, Nat.reduceAdd, Nat.reduceLT, Nat.reduceLeDiff, Nat.reduceSub, Int.reduceToNat, Int.reduceLE, Int.reduceLT, Int.reduceNeg, Int.reduceBEq, Int.reduceBNe, Nat.reduceMul, Int.reduceAdd, Int.reduceMul, Int.reduceSub, Int.reduceEq, Int.reduceNe]
  (first | refine WF_pure (hturn 0) rfl ?_ | refine WDQ_pure (hturn 0) rfl ?_)
  simp (config := { maxSteps := 400000 }) only [H12, W_drawH, a0, go_sem, ↓reduceIte, reduceCtorEq, Nat.reduceEqDiff, Nat.reduceAdd, Nat.reduceLT, Nat.reduceLeDiff, Nat.reduceSub, Int.reduceToNat, Int.reduceLE, Int.reduceLT, Int.reduceNeg, Int.reduceBEq, Int.reduceBNe, Nat.reduceMul, Int.reduceAdd, Int.reduceMul, Int.reduceSub, Int.reduceEq, Int.reduceNe]
  (first | refine WF_pure (hturn 1) rfl ?_ | refine WDQ_pure (hturn 1) rfl ?_)
  simp (config := { maxSteps := 400000 }) only [H12, W_drawH, a1, go_sem, ↓reduceIte, reduceCtorEq, Nat.reduceEqDiff, Nat.reduceAdd, Nat.reduceLT, Nat.reduceLeDiff, Nat.reduceSub, Int.reduceToNat, Int.reduceLE, Int.reduceLT, Int.reduceNeg, Int.reduceBEq, Int.reduceBNe, Nat.reduceMul, Int.reduceAdd, Int.reduceMul, Int.reduceSub, Int.reduceEq, Int.reduceNe]
  (first | refine WF_pure (cLawSpan _ _) rfl ?_ | refine WDQ_pure (cLawSpan _ _) rfl ?_)
  simp (config := { maxSteps := 400000 }) only [H12, W_drawH, go_sem, ↓reduceIte, reduceCtorEq, Nat.reduceEqDiff, Nat.reduceAdd, Nat.reduceLT, Nat.reduceLeDiff, Nat.reduceSub, Int.reduceToNat, Int.reduceLE, Int.reduceLT, Int.reduceNeg, Int.reduceBEq, Int.reduceBNe, Nat.reduceMul, Int.reduceAdd, Int.reduceMul, Int.reduceSub, Int.reduceEq, Int.reduceNe]
  (first | refine WF_pure (hturn 2) rfl ?_ | refine WDQ_pure (hturn 2) rfl ?_)
  simp (config := { maxSteps := 400000 }) only [H12, W_drawH, a2, go_sem, ↓reduceIte, reduceCtorEq, Nat.reduceEqDiff, Nat.reduceAdd, Nat.reduceLT, Nat.reduceLeDiff, Nat.reduceSub, Int.reduceToNat, Int.reduceLE, Int.reduceLT, Int.reduceNeg, Int.reduceBEq, Int.reduceBNe, Nat.reduceMul, Int.reduceAdd, Int.reduceMul, Int.reduceSub, Int.reduceEq, Int.reduceNe]
  (first | refine WF_pure (hturn 3) rfl ?_ | refine WDQ_pure (hturn 3) rfl ?_)
  simp (config := { maxSteps := 400000 }) only [H12, W_drawH, a3, go_sem, ↓reduceIte, reduceCtorEq, Nat.reduceEqDiff, Nat.reduceAdd, Nat.reduceLT, Nat.reduceLeDiff, Nat.reduceSub, Int.reduceToNat, Int.reduceLE, Int.reduceLT, Int.reduceNeg, Int.reduceBEq, Int.reduceBNe, Nat.reduceMul, Int.reduceAdd, Int.reduceMul, Int.reduceSub, Int.reduceEq, Int.reduceNe]
  (first | refine WF_pure (cLawSpan _ _) rfl ?_ | refine WDQ_pure (cLawSpan _ _) rfl ?_)
  simp (config := { maxSteps := 400000 }) only [H12, W_drawH, go_sem, ↓reduceIte, reduceCtorEq, Nat.reduceEqDiff, Nat.reduceAdd, Nat.reduceLT, Nat.reduceLeDiff, Nat.reduceSub, Int.reduceToNat, Int.reduceLE, Int.reduceLT, Int.reduceNeg, Int.reduceBEq, Int.reduceBNe, Nat.reduceMul, Int.reduceAdd, Int.reduceMul, Int.reduceSub, Int.reduceEq, Int.reduceNe]
  obtain ⟨q0, qs, hq0⟩ : ∃ q0 qs, l.zip w.parts = q0 :: qs := by
    cases hz : l.zip w.parts with
    | nil => have := congrArg List.length hz; rw [List.length_zip, List.length_nil] at this; omega
    | cons q qs => exact ⟨q, qs, rfl⟩
  have hzl : (l.zip w.parts).length = l.length := by simp [hwl]
  have hz1 : (l.zip w.parts).map Prod.fst = l := List.map_fst_zip (by omega)
  have hz2 : (l.zip w.parts).map Prod.snd = w.parts := List.map_snd_zip (by omega)
  refine W_loop_nil 7 7 (by simp (config := { maxSteps := 400000 }) only [go_sem, ↓reduceIte, reduceCtorEq, Nat.reduceEqDiff, Nat.reduceAdd, Nat.reduceLT, Nat.reduceLeDiff, Nat.reduceSub, Int.reduceToNat, Int.reduceLE, Int.reduceLT, Int.reduceNeg, Int.reduceBEq, Int.reduceBNe, Nat.reduceMul, Int.reduceAdd, Int.reduceMul, Int.reduceSub, Int.reduceEq, Int.reduceNe]) ?_
  simp (config := { maxSteps := 400000 }) only [go_sem, ↓reduceIte, reduceCtorEq, Nat.reduceEqDiff, Nat.reduceAdd, Nat.reduceLT, Nat.reduceLeDiff, Nat.reduceSub, Int.reduceToNat, Int.reduceLE, Int.reduceLT, Int.reduceNeg, Int.reduceBEq, Int.reduceBNe, Nat.reduceMul, Int.reduceAdd, Int.reduceMul, Int.reduceSub, Int.reduceEq, Int.reduceNe]
  refine W_loop_nil 8 7 (by simp (config := { maxSteps := 400000 }) only [go_sem, ↓reduceIte, reduceCtorEq, Nat.reduceEqDiff, Nat.reduceAdd, Nat.reduceLT, Nat.reduceLeDiff, Nat.reduceSub, Int.reduceToNat, Int.reduceLE, Int.reduceLT, Int.reduceNeg, Int.reduceBEq, Int.reduceBNe, Nat.reduceMul, Int.reduceAdd, Int.reduceMul, Int.reduceSub, Int.reduceEq, Int.reduceNe]) ?_
  simp (config := { maxSteps := 400000 }) only [go_sem, ↓reduceIte, reduceCtorEq, Nat.reduceEqDiff, Nat.reduceAdd, Nat.reduceLT, Nat.reduceLeDiff, Nat.reduceSub, Int.reduceToNat, Int.reduceLE, Int.reduceLT, Int.reduceNeg, Int.reduceBEq, Int.reduceBNe, Nat.reduceMul, Int.reduceAdd, Int.reduceMul, Int.reduceSub, Int.reduceEq, Int.reduceNe]
  refine W_rangeA [0, 2, 4, 9] (l.zip w.parts) (by omega) (τ := Unit) (fun _ _ _ => True) (fun done _ => [(10, .p (.int .i64 done.length)), (7, .slice 2 done.length 0 done.length), (8, .slice 3 done.length 0 done.length)])
    (fun done _ => if done = [] then [.row 5 [.p w.pv], .row 5 [.p (.agg [.nilslice, .int .i64 (wideW T w).melt.lo, .int .i64 (wideW T w).melt.hi, .int .i64 (wideW T w).shrink.lo, .int .i64 (wideW T w).shrink.hi])], .row 7 [], .row 7 []]
      else [.row 5 [.p w.pv], .row 5 [.agg [.slice 7 done.length 0 done.length, .p (.int .i64 (wideW T w).melt.lo), .p (.int .i64 (wideW T w).melt.hi), .p (.int .i64 (wideW T w).shrink.lo), .p (.int .i64 (wideW T w).shrink.hi)]],
        .row 7 ((goI (fineW T) 0 (done.map Prod.fst)).map fun x => .p x.pv), .row 7 ((goI (dearW T) 0 (done.map Prod.fst)).map fun x => .p x.pv),
        .row 7 [.p (fineW T 0 q0.1).pv], .row 7 [.p (dearW T 0 q0.1).pv], .row 2 [.p q0.2.pv], .row 2 ((goI (wideP T) 0 (done.map Prod.snd)).map fun x => .p x.pv)]) () trivial ?_ ?_ ?_
  · simp (config := { maxSteps := 400000 }) only [if_pos, wideW, go_sem, ↓reduceIte, reduceCtorEq, Nat.reduceEqDiff, Nat.reduceAdd, Nat.reduceLT, Nat.reduceLeDiff, Nat.reduceSub, Int.reduceToNat, Int.reduceLE, Int.reduceLT, Int.reduceNeg, Int.reduceBEq, Int.reduceBNe, Nat.reduceMul, Int.reduceAdd, Int.reduceMul, Int.reduceSub, Int.reduceEq, Int.reduceNe]
  · intro _ _
    have hne : ¬ l.zip w.parts = [] := by rw [hq0]; simp
    rw [if_neg hne, hz1, hz2]
    have g1 : ¬ (((l.zip w.parts).length : Nat) : Int) < (l.length : Int) := by omega
    simp (config := { maxSteps := 400000 }) only [H12, W_drawH, g1, go_sem, ↓reduceIte, reduceCtorEq, Nat.reduceEqDiff, Nat.reduceAdd, Nat.reduceLT, Nat.reduceLeDiff, Nat.reduceSub, Int.reduceToNat, Int.reduceLE, Int.reduceLT, Int.reduceNeg, Int.reduceBEq, Int.reduceBNe, Nat.reduceMul, Int.reduceAdd, Int.reduceMul, Int.reduceSub, Int.reduceEq, Int.reduceNe]
    have hr := parted_ok hx.1 hl5.1
    have hfl : (goI (fineW T) 0 l).length = l.length := goI_len _ _ _
    have hdl : (goI (dearW T) 0 l).length = l.length := goI_len _ _ _
    have hwl' : (goI (wideP T) 0 w.parts).length = l.length := by rw [goI_len, hwl]
    have hfw : wishErr (goI (fineW T) 0 l) w = 0 := by
      have := he'
      rw [wishErr, if_pos hbe, if_pos hwl] at this
      rw [wishErr, if_pos (fine_bdE hT hbe), if_pos (by rw [hfl]; exact hwl)]; exact this
    have hdw : wishErr (goI (dearW T) 0 l) w = 0 := by
      have := he'
      rw [wishErr, if_pos hbe, if_pos hwl] at this
      rw [wishErr, if_pos (dear_bdE hT hbe), if_pos (by rw [hdl]; exact hwl)]; exact this
    have hww := wide_wish hT he'
    have hff : bdFits (goI (fineW T) 0 l) w (parted l.length xs) = (whyS (goI (fineW T) 0 l) w (parted l.length xs), 0) := fits_at hfw (by rw [hfl]; exact hr)
    have hf0 : bdFits l w (parted l.length xs) = (whyS l w (parted l.length xs), 0) := fits_at he' hr
    have hstill := fine_why hT (w := w) hl hr
    have hA := less_best hT he'
    have ht1 : ∀ f : BdWax → PV, List.take l.length ((goI (fineW T) 0 l).map f) = (goI (fineW T) 0 l).map f := fun f => List.take_of_length_le (Nat.le_of_eq (by rw [List.length_map, hfl]))
    have ht2 : ∀ f : BdWax → PV, List.take l.length ((goI (dearW T) 0 l).map f) = (goI (dearW T) 0 l).map f := fun f => List.take_of_length_le (Nat.le_of_eq (by rw [List.length_map, hdl]))
    have ht3 : ∀ f : Span → PV, List.take l.length ((goI (wideP T) 0 w.parts).map f) = (goI (wideP T) 0 w.parts).map f := fun f => List.take_of_length_le (Nat.le_of_eq (by rw [List.length_map, hwl']))
    (first | refine WF_pure (cParted l.length xs false hl5 hx.1 hx.2) rfl ?_ | refine WDQ_pure (cParted l.length xs false hl5 hx.1 hx.2) rfl ?_)
    simp (config := { maxSteps := 400000 }) only [H12, W_drawH, go_sem, ↓reduceIte, reduceCtorEq, Nat.reduceEqDiff, Nat.reduceAdd, Nat.reduceLT, Nat.reduceLeDiff, Nat.reduceSub, Int.reduceToNat, Int.reduceLE, Int.reduceLT, Int.reduceNeg, Int.reduceBEq, Int.reduceBNe, Nat.reduceMul, Int.reduceAdd, Int.reduceMul, Int.reduceSub, Int.reduceEq, Int.reduceNe]
    (first | refine WF_pure (cFits l w (parted l.length xs) false) rfl ?_ | refine WDQ_pure (cFits l w (parted l.length xs) false) rfl ?_)
    simp (config := { maxSteps := 400000 }) only [H12, W_drawH, pairPV, hf0, go_sem, ↓reduceIte, reduceCtorEq, Nat.reduceEqDiff, Nat.reduceAdd, Nat.reduceLT, Nat.reduceLeDiff, Nat.reduceSub, Int.reduceToNat, Int.reduceLE, Int.reduceLT, Int.reduceNeg, Int.reduceBEq, Int.reduceBNe, Nat.reduceMul, Int.reduceAdd, Int.reduceMul, Int.reduceSub, Int.reduceEq, Int.reduceNe]
    refine WF_frz (cFits (goI (fineW T) 0 l) w (parted l.length xs) false) ?_ ?_ ?_
    · simp (config := { maxSteps := 400000 }) only [hzl, ht1, hfl, go_sem, ↓reduceIte, reduceCtorEq, Nat.reduceEqDiff, Nat.reduceAdd, Nat.reduceLT, Nat.reduceLeDiff, Nat.reduceSub, Int.reduceToNat, Int.reduceLE, Int.reduceLT, Int.reduceNeg, Int.reduceBEq, Int.reduceBNe, Nat.reduceMul, Int.reduceAdd, Int.reduceMul, Int.reduceSub, Int.reduceEq, Int.reduceNe]
      rfl
    · exact .tuple (Flat.cons (.int _ _) (Flat.cons (.int _ _) Flat.nil))
    simp (config := { maxSteps := 400000 }) only [H12, W_drawH, pairPV, hff, go_sem, ↓reduceIte, reduceCtorEq, Nat.reduceEqDiff, Nat.reduceAdd, Nat.reduceLT, Nat.reduceLeDiff, Nat.reduceSub, Int.reduceToNat, Int.reduceLE, Int.reduceLT, Int.reduceNeg, Int.reduceBEq, Int.reduceBNe, Nat.reduceMul, Int.reduceAdd, Int.reduceMul, Int.reduceSub, Int.reduceEq, Int.reduceNe]
    have hv := cCheapest l w
    have hvl := cCheapest l (wideW T w)
    have hvm := cCheapest (goI (dearW T) 0 l) w
    generalize bdCheapest l w = v at hA hv
    generalize bdCheapest l (wideW T w) = vl at hA hvl
    generalize bdCheapest (goI (dearW T) 0 l) w = vm at hA hvm
    obtain ⟨r, c, e⟩ := v
    obtain ⟨rl, cl, el⟩ := vl
    obtain ⟨rm, cm, em⟩ := vm
    dsimp only at hA
    cases hy : (whyS l w (parted l.length xs) == 0)
    rotate_left
    · have h0 := hstill (by simpa using hy)
      simp (config := { maxSteps := 400000 }) only [H12, W_drawH, h0, bne_self_eq_false, go_sem, ↓reduceIte, reduceCtorEq, Nat.reduceEqDiff, Nat.reduceAdd, Nat.reduceLT, Nat.reduceLeDiff, Nat.reduceSub, Int.reduceToNat, Int.reduceLE, Int.reduceLT, Int.reduceNeg, Int.reduceBEq, Int.reduceBNe, Nat.reduceMul, Int.reduceAdd, Int.reduceMul, Int.reduceSub, Int.reduceEq, Int.reduceNe]
      (first | refine WF_pure (hv) rfl ?_ | refine WDQ_pure (hv) rfl ?_)
      simp (config := { maxSteps := 400000 }) only [H12, W_drawH, bestPV, go_sem, ↓reduceIte, reduceCtorEq, Nat.reduceEqDiff, Nat.reduceAdd, Nat.reduceLT, Nat.reduceLeDiff, Nat.reduceSub, Int.reduceToNat, Int.reduceLE, Int.reduceLT, Int.reduceNeg, Int.reduceBEq, Int.reduceBNe, Nat.reduceMul, Int.reduceAdd, Int.reduceMul, Int.reduceSub, Int.reduceEq, Int.reduceNe]
      refine WF_killK hvl (fun i => i == 7) (fun id hid => ?_) ?_ ?_ ?_
      · have : id = 7 := by simpa using hid
        subst this
        exact ⟨2, (goI (wideP T) 0 w.parts).map Span.pv, by rw [List.map_map]; rfl⟩
      · simp (config := { maxSteps := 400000 }) only [go_sem, ↓reduceIte, reduceCtorEq, Nat.reduceEqDiff, Nat.reduceAdd, Nat.reduceLT, Nat.reduceLeDiff, Nat.reduceSub, Int.reduceToNat, Int.reduceLE, Int.reduceLT, Int.reduceNeg, Int.reduceBEq, Int.reduceBNe, Nat.reduceMul, Int.reduceAdd, Int.reduceMul, Int.reduceSub, Int.reduceEq, Int.reduceNe]
        decide
      · simp (config := { maxSteps := 400000 }) only [hzl, ht3, hwl', wideW, go_sem, ↓reduceIte, reduceCtorEq, Nat.reduceEqDiff, Nat.reduceAdd, Nat.reduceLT, Nat.reduceLeDiff, Nat.reduceSub, Int.reduceToNat, Int.reduceLE, Int.reduceLT, Int.reduceNeg, Int.reduceBEq, Int.reduceBNe, Nat.reduceMul, Int.reduceAdd, Int.reduceMul, Int.reduceSub, Int.reduceEq, Int.reduceNe]
        rfl
      simp (config := { maxSteps := 400000 }) only [H12, W_drawH, bestPV, kill8, go_sem, ↓reduceIte, reduceCtorEq, Nat.reduceEqDiff, Nat.reduceAdd, Nat.reduceLT, Nat.reduceLeDiff, Nat.reduceSub, Int.reduceToNat, Int.reduceLE, Int.reduceLT, Int.reduceNeg, Int.reduceBEq, Int.reduceBNe, Nat.reduceMul, Int.reduceAdd, Int.reduceMul, Int.reduceSub, Int.reduceEq, Int.reduceNe]
      refine WF_killK hvm (fun i => i == 3) (fun id hid => ?_) ?_ ?_ ?_
      · have : id = 3 := by simpa using hid
        subst this
        exact ⟨7, (goI (dearW T) 0 l).map BdWax.pv, by rw [List.map_map]; rfl⟩
      · simp (config := { maxSteps := 400000 }) only [go_sem, ↓reduceIte, reduceCtorEq, Nat.reduceEqDiff, Nat.reduceAdd, Nat.reduceLT, Nat.reduceLeDiff, Nat.reduceSub, Int.reduceToNat, Int.reduceLE, Int.reduceLT, Int.reduceNeg, Int.reduceBEq, Int.reduceBNe, Nat.reduceMul, Int.reduceAdd, Int.reduceMul, Int.reduceSub, Int.reduceEq, Int.reduceNe]
        decide
      · simp (config := { maxSteps := 400000 }) only [hzl, ht2, hdl, go_sem, ↓reduceIte, reduceCtorEq, Nat.reduceEqDiff, Nat.reduceAdd, Nat.reduceLT, Nat.reduceLeDiff, Nat.reduceSub, Int.reduceToNat, Int.reduceLE, Int.reduceLT, Int.reduceNeg, Int.reduceBEq, Int.reduceBNe, Nat.reduceMul, Int.reduceAdd, Int.reduceMul, Int.reduceSub, Int.reduceEq, Int.reduceNe]
        rfl
      simp (config := { maxSteps := 400000 }) only [H12, W_drawH, bestPV, go_sem, ↓reduceIte, reduceCtorEq, Nat.reduceEqDiff, Nat.reduceAdd, Nat.reduceLT, Nat.reduceLeDiff, Nat.reduceSub, Int.reduceToNat, Int.reduceLE, Int.reduceLT, Int.reduceNeg, Int.reduceBEq, Int.reduceBNe, Nat.reduceMul, Int.reduceAdd, Int.reduceMul, Int.reduceSub, Int.reduceEq, Int.reduceNe]
      rcases hA with ⟨rfl, rfl, rfl | rfl⟩ | ⟨rfl, rfl, rfl, hle1, hle2⟩
      · simp (config := { maxSteps := 400000 }) only [H12, W_drawH, go_sem, ↓reduceIte, reduceCtorEq, Nat.reduceEqDiff, Nat.reduceAdd, Nat.reduceLT, Nat.reduceLeDiff, Nat.reduceSub, Int.reduceToNat, Int.reduceLE, Int.reduceLT, Int.reduceNeg, Int.reduceBEq, Int.reduceBNe, Nat.reduceMul, Int.reduceAdd, Int.reduceMul, Int.reduceSub, Int.reduceEq, Int.reduceNe]
        (first | refine WF_pure (cAwake) rfl ?_ | refine WDQ_pure (cAwake) rfl ?_)
        simp (config := { maxSteps := 400000 }) only [H12, W_drawH, go_sem, ↓reduceIte, reduceCtorEq, Nat.reduceEqDiff, Nat.reduceAdd, Nat.reduceLT, Nat.reduceLeDiff, Nat.reduceSub, Int.reduceToNat, Int.reduceLE, Int.reduceLT, Int.reduceNeg, Int.reduceBEq, Int.reduceBNe, Nat.reduceMul, Int.reduceAdd, Int.reduceMul, Int.reduceSub, Int.reduceEq, Int.reduceNe]
      · simp (config := { maxSteps := 400000 }) only [H12, W_drawH, go_sem, ↓reduceIte, reduceCtorEq, Nat.reduceEqDiff, Nat.reduceAdd, Nat.reduceLT, Nat.reduceLeDiff, Nat.reduceSub, Int.reduceToNat, Int.reduceLE, Int.reduceLT, Int.reduceNeg, Int.reduceBEq, Int.reduceBNe, Nat.reduceMul, Int.reduceAdd, Int.reduceMul, Int.reduceSub, Int.reduceEq, Int.reduceNe]
        (first | refine WF_pure (cAwake) rfl ?_ | refine WDQ_pure (cAwake) rfl ?_)
        simp (config := { maxSteps := 400000 }) only [H12, W_drawH, go_sem, ↓reduceIte, reduceCtorEq, Nat.reduceEqDiff, Nat.reduceAdd, Nat.reduceLT, Nat.reduceLeDiff, Nat.reduceSub, Int.reduceToNat, Int.reduceLE, Int.reduceLT, Int.reduceNeg, Int.reduceBEq, Int.reduceBNe, Nat.reduceMul, Int.reduceAdd, Int.reduceMul, Int.reduceSub, Int.reduceEq, Int.reduceNe]
      · simp (config := { maxSteps := 400000 }) only [H12, W_drawH, hle1, hle2, go_sem, ↓reduceIte, reduceCtorEq, Nat.reduceEqDiff, Nat.reduceAdd, Nat.reduceLT, Nat.reduceLeDiff, Nat.reduceSub, Int.reduceToNat, Int.reduceLE, Int.reduceLT, Int.reduceNeg, Int.reduceBEq, Int.reduceBNe, Nat.reduceMul, Int.reduceAdd, Int.reduceMul, Int.reduceSub, Int.reduceEq, Int.reduceNe]
        (first | refine WF_pure (cAwake) rfl ?_ | refine WDQ_pure (cAwake) rfl ?_)
        simp (config := { maxSteps := 400000 }) only [H12, W_drawH, go_sem, ↓reduceIte, reduceCtorEq, Nat.reduceEqDiff, Nat.reduceAdd, Nat.reduceLT, Nat.reduceLeDiff, Nat.reduceSub, Int.reduceToNat, Int.reduceLE, Int.reduceLT, Int.reduceNeg, Int.reduceBEq, Int.reduceBNe, Nat.reduceMul, Int.reduceAdd, Int.reduceMul, Int.reduceSub, Int.reduceEq, Int.reduceNe]
    · simp (config := { maxSteps := 400000 }) only [H12, W_drawH, go_sem, ↓reduceIte, reduceCtorEq, Nat.reduceEqDiff, Nat.reduceAdd, Nat.reduceLT, Nat.reduceLeDiff, Nat.reduceSub, Int.reduceToNat, Int.reduceLE, Int.reduceLT, Int.reduceNeg, Int.reduceBEq, Int.reduceBNe, Nat.reduceMul, Int.reduceAdd, Int.reduceMul, Int.reduceSub, Int.reduceEq, Int.reduceNe]
      (first | refine WF_pure (hv) rfl ?_ | refine WDQ_pure (hv) rfl ?_)
      simp (config := { maxSteps := 400000 }) only [H12, W_drawH, bestPV, go_sem, ↓reduceIte, reduceCtorEq, Nat.reduceEqDiff, Nat.reduceAdd, Nat.reduceLT, Nat.reduceLeDiff, Nat.reduceSub, Int.reduceToNat, Int.reduceLE, Int.reduceLT, Int.reduceNeg, Int.reduceBEq, Int.reduceBNe, Nat.reduceMul, Int.reduceAdd, Int.reduceMul, Int.reduceSub, Int.reduceEq, Int.reduceNe]
      refine WF_killK hvl (fun i => i == 7) (fun id hid => ?_) ?_ ?_ ?_
      · have : id = 7 := by simpa using hid
        subst this
        exact ⟨2, (goI (wideP T) 0 w.parts).map Span.pv, by rw [List.map_map]; rfl⟩
      · simp (config := { maxSteps := 400000 }) only [go_sem, ↓reduceIte, reduceCtorEq, Nat.reduceEqDiff, Nat.reduceAdd, Nat.reduceLT, Nat.reduceLeDiff, Nat.reduceSub, Int.reduceToNat, Int.reduceLE, Int.reduceLT, Int.reduceNeg, Int.reduceBEq, Int.reduceBNe, Nat.reduceMul, Int.reduceAdd, Int.reduceMul, Int.reduceSub, Int.reduceEq, Int.reduceNe]
        decide
      · simp (config := { maxSteps := 400000 }) only [hzl, ht3, hwl', wideW, go_sem, ↓reduceIte, reduceCtorEq, Nat.reduceEqDiff, Nat.reduceAdd, Nat.reduceLT, Nat.reduceLeDiff, Nat.reduceSub, Int.reduceToNat, Int.reduceLE, Int.reduceLT, Int.reduceNeg, Int.reduceBEq, Int.reduceBNe, Nat.reduceMul, Int.reduceAdd, Int.reduceMul, Int.reduceSub, Int.reduceEq, Int.reduceNe]
        rfl
      simp (config := { maxSteps := 400000 }) only [H12, W_drawH, bestPV, kill8, go_sem, ↓reduceIte, reduceCtorEq, Nat.reduceEqDiff, Nat.reduceAdd, Nat.reduceLT, Nat.reduceLeDiff, Nat.reduceSub, Int.reduceToNat, Int.reduceLE, Int.reduceLT, Int.reduceNeg, Int.reduceBEq, Int.reduceBNe, Nat.reduceMul, Int.reduceAdd, Int.reduceMul, Int.reduceSub, Int.reduceEq, Int.reduceNe]
      refine WF_killK hvm (fun i => i == 3) (fun id hid => ?_) ?_ ?_ ?_
      · have : id = 3 := by simpa using hid
        subst this
        exact ⟨7, (goI (dearW T) 0 l).map BdWax.pv, by rw [List.map_map]; rfl⟩
      · simp (config := { maxSteps := 400000 }) only [go_sem, ↓reduceIte, reduceCtorEq, Nat.reduceEqDiff, Nat.reduceAdd, Nat.reduceLT, Nat.reduceLeDiff, Nat.reduceSub, Int.reduceToNat, Int.reduceLE, Int.reduceLT, Int.reduceNeg, Int.reduceBEq, Int.reduceBNe, Nat.reduceMul, Int.reduceAdd, Int.reduceMul, Int.reduceSub, Int.reduceEq, Int.reduceNe]
        decide
      · simp (config := { maxSteps := 400000 }) only [hzl, ht2, hdl, go_sem, ↓reduceIte, reduceCtorEq, Nat.reduceEqDiff, Nat.reduceAdd, Nat.reduceLT, Nat.reduceLeDiff, Nat.reduceSub, Int.reduceToNat, Int.reduceLE, Int.reduceLT, Int.reduceNeg, Int.reduceBEq, Int.reduceBNe, Nat.reduceMul, Int.reduceAdd, Int.reduceMul, Int.reduceSub, Int.reduceEq, Int.reduceNe]
        rfl
      simp (config := { maxSteps := 400000 }) only [H12, W_drawH, bestPV, go_sem, ↓reduceIte, reduceCtorEq, Nat.reduceEqDiff, Nat.reduceAdd, Nat.reduceLT, Nat.reduceLeDiff, Nat.reduceSub, Int.reduceToNat, Int.reduceLE, Int.reduceLT, Int.reduceNeg, Int.reduceBEq, Int.reduceBNe, Nat.reduceMul, Int.reduceAdd, Int.reduceMul, Int.reduceSub, Int.reduceEq, Int.reduceNe]
      rcases hA with ⟨rfl, rfl, rfl | rfl⟩ | ⟨rfl, rfl, rfl, hle1, hle2⟩
      · simp (config := { maxSteps := 400000 }) only [H12, W_drawH, go_sem, ↓reduceIte, reduceCtorEq, Nat.reduceEqDiff, Nat.reduceAdd, Nat.reduceLT, Nat.reduceLeDiff, Nat.reduceSub, Int.reduceToNat, Int.reduceLE, Int.reduceLT, Int.reduceNeg, Int.reduceBEq, Int.reduceBNe, Nat.reduceMul, Int.reduceAdd, Int.reduceMul, Int.reduceSub, Int.reduceEq, Int.reduceNe]
        (first | refine WF_pure (cAwake) rfl ?_ | refine WDQ_pure (cAwake) rfl ?_)
        simp (config := { maxSteps := 400000 }) only [H12, W_drawH, go_sem, ↓reduceIte, reduceCtorEq, Nat.reduceEqDiff, Nat.reduceAdd, Nat.reduceLT, Nat.reduceLeDiff, Nat.reduceSub, Int.reduceToNat, Int.reduceLE, Int.reduceLT, Int.reduceNeg, Int.reduceBEq, Int.reduceBNe, Nat.reduceMul, Int.reduceAdd, Int.reduceMul, Int.reduceSub, Int.reduceEq, Int.reduceNe]
      · simp (config := { maxSteps := 400000 }) only [H12, W_drawH, go_sem, ↓reduceIte, reduceCtorEq, Nat.reduceEqDiff, Nat.reduceAdd, Nat.reduceLT, Nat.reduceLeDiff, Nat.reduceSub, Int.reduceToNat, Int.reduceLE, Int.reduceLT, Int.reduceNeg, Int.reduceBEq, Int.reduceBNe, Nat.reduceMul, Int.reduceAdd, Int.reduceMul, Int.reduceSub, Int.reduceEq, Int.reduceNe]
        (first | refine WF_pure (cAwake) rfl ?_ | refine WDQ_pure (cAwake) rfl ?_)
        simp (config := { maxSteps := 400000 }) only [H12, W_drawH, go_sem, ↓reduceIte, reduceCtorEq, Nat.reduceEqDiff, Nat.reduceAdd, Nat.reduceLT, Nat.reduceLeDiff, Nat.reduceSub, Int.reduceToNat, Int.reduceLE, Int.reduceLT, Int.reduceNeg, Int.reduceBEq, Int.reduceBNe, Nat.reduceMul, Int.reduceAdd, Int.reduceMul, Int.reduceSub, Int.reduceEq, Int.reduceNe]
      · simp (config := { maxSteps := 400000 }) only [H12, W_drawH, hle1, hle2, go_sem, ↓reduceIte, reduceCtorEq, Nat.reduceEqDiff, Nat.reduceAdd, Nat.reduceLT, Nat.reduceLeDiff, Nat.reduceSub, Int.reduceToNat, Int.reduceLE, Int.reduceLT, Int.reduceNeg, Int.reduceBEq, Int.reduceBNe, Nat.reduceMul, Int.reduceAdd, Int.reduceMul, Int.reduceSub, Int.reduceEq, Int.reduceNe]
        (first | refine WF_pure (cAwake) rfl ?_ | refine WDQ_pure (cAwake) rfl ?_)
        simp (config := { maxSteps := 400000 }) only [H12, W_drawH, go_sem, ↓reduceIte, reduceCtorEq, Nat.reduceEqDiff, Nat.reduceAdd, Nat.reduceLT, Nat.reduceLeDiff, Nat.reduceSub, Int.reduceToNat, Int.reduceLE, Int.reduceLT, Int.reduceNeg, Int.reduceBEq, Int.reduceBNe, Nat.reduceMul, Int.reduceAdd, Int.reduceMul, Int.reduceSub, Int.reduceEq, Int.reduceNe]
  · intro done q rest _ e1 _ hq hlt hnx
    have hdl : done.length < l.length := by omega
    obtain ⟨x, p⟩ := q
    obtain ⟨g1, g2⟩ := List.getElem?_zip_eq_some.1 hq
    have hxm := List.mem_of_getElem? g1
    have hpm := List.mem_of_getElem? g2
    have hxo := hl.wax x hxm
    have hpo := hw.parts p hpm
    have ho1 := hxo.melt
    have ho2 := hxo.shrink
    have ho3 := hxo.price
    have hlt1 : ((done.length : Nat) : Int) < (l.length : Int) := by omega
    have hlt2 : ((done.length : Nat) : Int) < (w.parts.length : Int) := by omega
    have hrm : done.length + 1 ≤ room := by simp [room]; omega
    have hAm1 := fun (i : Nat) => amongS_in ho1.2.1 (hT i)
    have hAm2 := fun (i : Nat) => amongS_in ho2.2.1 (hT i)
    have kT := hTb done.length
    have kp : IntKind.i64.wrap (x.price + T done.length) = x.price + T done.length := wrap_in (by omega) (by omega)
    have k3 : (T done.length).tmod 3 = T done.length % 3 := Int.tmod_eq_emod_of_nonneg kT.1
    have k5 : (T done.length).tmod 5 = T done.length % 5 := Int.tmod_eq_emod_of_nonneg kT.1
    have kl : IntKind.i64.wrap (p.lo - T done.length % 3) = p.lo - T done.length % 3 := wrap_in (by omega) (by omega)
    have kh : IntKind.i64.wrap (p.hi + T done.length % 5) = p.hi + T done.length % 5 := wrap_in (by omega) (by omega)
    have kr3 : IntKind.i64.wrap (T done.length % 3) = T done.length % 3 := wrap_in (by omega) (by omega)
    have kr5 : IntKind.i64.wrap (T done.length % 5) = T done.length % 5 := wrap_in (by omega) (by omega)
    have w1 : IntKind.i64.wrap ((done.length : Nat) + 1) = ((done.length + 1 : Nat) : Int) := wrap_in (by omega) (by omega)
    have w2 : IntKind.i64.wrap ((done.length : Nat) + 2) = ((done.length + 2 : Nat) : Int) := wrap_in (by omega) (by omega)
    have w3 : IntKind.i64.wrap ((done.length : Nat) + 3) = ((done.length + 3 : Nat) : Int) := wrap_in (by omega) (by omega)
    have b1 : ∀ i, 0 ≤ (⟨amongS x.melt (T i), x.melt.hi⟩ : Span).lo ∧ (⟨amongS x.melt (T i), x.melt.hi⟩ : Span).lo ≤ (⟨amongS x.melt (T i), x.melt.hi⟩ : Span).hi ∧ (⟨amongS x.melt (T i), x.melt.hi⟩ : Span).hi ≤ 100000 := fun i => by
      have := hAm1 i
      dsimp only
      omega
    have b2 : ∀ i, 0 ≤ (⟨amongS x.shrink (T i), x.shrink.hi⟩ : Span).lo ∧ (⟨amongS x.shrink (T i), x.shrink.hi⟩ : Span).lo ≤ (⟨amongS x.shrink (T i), x.shrink.hi⟩ : Span).hi ∧ (⟨amongS x.shrink (T i), x.shrink.hi⟩ : Span).hi ≤ 100000 := fun i => by
      have := hAm2 i
      dsimp only
      omega
    by_cases hd : done = []
    · subst hd
      rw [if_pos rfl]
      simp only [List.length_nil, Nat.zero_add, Int.cast_ofNat_Int, Int.zero_add] at g1 g2 hlt1 hlt2 hAm1 hAm2 kT kp k3 k5 kl kh kr3 kr5 w1 w2 w3 hrm
      simp (config := { maxSteps := 400000 }) only [H12, W_drawH, g1, g2, hlt1, hlt2, go_sem, ↓reduceIte, reduceCtorEq, Nat.reduceEqDiff, Nat.reduceAdd, Nat.reduceLT, Nat.reduceLeDiff, Nat.reduceSub, Int.reduceToNat, Int.reduceLE, Int.reduceLT, Int.reduceNeg, Int.reduceBEq, Int.reduceBNe, Nat.reduceMul, Int.reduceAdd, Int.reduceMul, Int.reduceSub, Int.reduceEq, Int.reduceNe]
      (first | refine WF_pure (hturn (0)) rfl ?_ | refine WDQ_pure (hturn (0)) rfl ?_)
      simp (config := { maxSteps := 400000 }) only [H12, W_drawH, go_sem, ↓reduceIte, reduceCtorEq, Nat.reduceEqDiff, Nat.reduceAdd, Nat.reduceLT, Nat.reduceLeDiff, Nat.reduceSub, Int.reduceToNat, Int.reduceLE, Int.reduceLT, Int.reduceNeg, Int.reduceBEq, Int.reduceBNe, Nat.reduceMul, Int.reduceAdd, Int.reduceMul, Int.reduceSub, Int.reduceEq, Int.reduceNe]
      (first | refine WF_pure (cAmong x.melt (T (0)) (by omega) (hT _)) rfl ?_ | refine WDQ_pure (cAmong x.melt (T (0)) (by omega) (hT _)) rfl ?_)
      simp (config := { maxSteps := 400000 }) only [H12, W_drawH, w1, go_sem, ↓reduceIte, reduceCtorEq, Nat.reduceEqDiff, Nat.reduceAdd, Nat.reduceLT, Nat.reduceLeDiff, Nat.reduceSub, Int.reduceToNat, Int.reduceLE, Int.reduceLT, Int.reduceNeg, Int.reduceBEq, Int.reduceBNe, Nat.reduceMul, Int.reduceAdd, Int.reduceMul, Int.reduceSub, Int.reduceEq, Int.reduceNe]
      (first | refine WF_pure (hturn (0 + 1)) rfl ?_ | refine WDQ_pure (hturn (0 + 1)) rfl ?_)
      simp (config := { maxSteps := 400000 }) only [H12, W_drawH, go_sem, ↓reduceIte, reduceCtorEq, Nat.reduceEqDiff, Nat.reduceAdd, Nat.reduceLT, Nat.reduceLeDiff, Nat.reduceSub, Int.reduceToNat, Int.reduceLE, Int.reduceLT, Int.reduceNeg, Int.reduceBEq, Int.reduceBNe, Nat.reduceMul, Int.reduceAdd, Int.reduceMul, Int.reduceSub, Int.reduceEq, Int.reduceNe]
      (first | refine WF_pure (cAmong x.shrink (T (0 + 1)) (by omega) (hT _)) rfl ?_ | refine WDQ_pure (cAmong x.shrink (T (0 + 1)) (by omega) (hT _)) rfl ?_)
      simp (config := { maxSteps := 400000 }) only [H12, W_drawH, go_sem, ↓reduceIte, reduceCtorEq, Nat.reduceEqDiff, Nat.reduceAdd, Nat.reduceLT, Nat.reduceLeDiff, Nat.reduceSub, Int.reduceToNat, Int.reduceLE, Int.reduceLT, Int.reduceNeg, Int.reduceBEq, Int.reduceBNe, Nat.reduceMul, Int.reduceAdd, Int.reduceMul, Int.reduceSub, Int.reduceEq, Int.reduceNe]
      (first | refine WF_pure (cLawSpan _ _) rfl ?_ | refine WDQ_pure (cLawSpan _ _) rfl ?_)
      simp (config := { maxSteps := 400000 }) only [H12, W_drawH, w2, go_sem, ↓reduceIte, reduceCtorEq, Nat.reduceEqDiff, Nat.reduceAdd, Nat.reduceLT, Nat.reduceLeDiff, Nat.reduceSub, Int.reduceToNat, Int.reduceLE, Int.reduceLT, Int.reduceNeg, Int.reduceBEq, Int.reduceBNe, Nat.reduceMul, Int.reduceAdd, Int.reduceMul, Int.reduceSub, Int.reduceEq, Int.reduceNe]
      (first | refine WF_pure (hturn (0 + 2)) rfl ?_ | refine WDQ_pure (hturn (0 + 2)) rfl ?_)
      simp (config := { maxSteps := 400000 }) only [H12, W_drawH, go_sem, ↓reduceIte, reduceCtorEq, Nat.reduceEqDiff, Nat.reduceAdd, Nat.reduceLT, Nat.reduceLeDiff, Nat.reduceSub, Int.reduceToNat, Int.reduceLE, Int.reduceLT, Int.reduceNeg, Int.reduceBEq, Int.reduceBNe, Nat.reduceMul, Int.reduceAdd, Int.reduceMul, Int.reduceSub, Int.reduceEq, Int.reduceNe]
      (first | refine WF_pure (cAmong ⟨amongS x.melt (T (0)), x.melt.hi⟩ (T (0 + 2)) (b1 0) (hT _)) rfl ?_ | refine WDQ_pure (cAmong ⟨amongS x.melt (T (0)), x.melt.hi⟩ (T (0 + 2)) (b1 0) (hT _)) rfl ?_)
      simp (config := { maxSteps := 400000 }) only [H12, W_drawH, go_sem, ↓reduceIte, reduceCtorEq, Nat.reduceEqDiff, Nat.reduceAdd, Nat.reduceLT, Nat.reduceLeDiff, Nat.reduceSub, Int.reduceToNat, Int.reduceLE, Int.reduceLT, Int.reduceNeg, Int.reduceBEq, Int.reduceBNe, Nat.reduceMul, Int.reduceAdd, Int.reduceMul, Int.reduceSub, Int.reduceEq, Int.reduceNe]
      (first | refine WF_pure (cLawSpan _ _) rfl ?_ | refine WDQ_pure (cLawSpan _ _) rfl ?_)
      simp (config := { maxSteps := 400000 }) only [H12, W_drawH, go_sem, ↓reduceIte, reduceCtorEq, Nat.reduceEqDiff, Nat.reduceAdd, Nat.reduceLT, Nat.reduceLeDiff, Nat.reduceSub, Int.reduceToNat, Int.reduceLE, Int.reduceLT, Int.reduceNeg, Int.reduceBEq, Int.reduceBNe, Nat.reduceMul, Int.reduceAdd, Int.reduceMul, Int.reduceSub, Int.reduceEq, Int.reduceNe]
      (first | refine WF_pure (cLawSpan _ _) rfl ?_ | refine WDQ_pure (cLawSpan _ _) rfl ?_)
      simp (config := { maxSteps := 400000 }) only [H12, W_drawH, w3, go_sem, ↓reduceIte, reduceCtorEq, Nat.reduceEqDiff, Nat.reduceAdd, Nat.reduceLT, Nat.reduceLeDiff, Nat.reduceSub, Int.reduceToNat, Int.reduceLE, Int.reduceLT, Int.reduceNeg, Int.reduceBEq, Int.reduceBNe, Nat.reduceMul, Int.reduceAdd, Int.reduceMul, Int.reduceSub, Int.reduceEq, Int.reduceNe]
      (first | refine WF_pure (hturn (0 + 3)) rfl ?_ | refine WDQ_pure (hturn (0 + 3)) rfl ?_)
      simp (config := { maxSteps := 400000 }) only [H12, W_drawH, go_sem, ↓reduceIte, reduceCtorEq, Nat.reduceEqDiff, Nat.reduceAdd, Nat.reduceLT, Nat.reduceLeDiff, Nat.reduceSub, Int.reduceToNat, Int.reduceLE, Int.reduceLT, Int.reduceNeg, Int.reduceBEq, Int.reduceBNe, Nat.reduceMul, Int.reduceAdd, Int.reduceMul, Int.reduceSub, Int.reduceEq, Int.reduceNe]
      (first | refine WF_pure (cAmong ⟨amongS x.shrink (T (0 + 1)), x.shrink.hi⟩ (T (0 + 3)) (b2 1) (hT _)) rfl ?_ | refine WDQ_pure (cAmong ⟨amongS x.shrink (T (0 + 1)), x.shrink.hi⟩ (T (0 + 3)) (b2 1) (hT _)) rfl ?_)
      simp (config := { maxSteps := 400000 }) only [H12, W_drawH, go_sem, ↓reduceIte, reduceCtorEq, Nat.reduceEqDiff, Nat.reduceAdd, Nat.reduceLT, Nat.reduceLeDiff, Nat.reduceSub, Int.reduceToNat, Int.reduceLE, Int.reduceLT, Int.reduceNeg, Int.reduceBEq, Int.reduceBNe, Nat.reduceMul, Int.reduceAdd, Int.reduceMul, Int.reduceSub, Int.reduceEq, Int.reduceNe]
      (first | refine WF_pure (cLawSpan _ _) rfl ?_ | refine WDQ_pure (cLawSpan _ _) rfl ?_)
      simp (config := { maxSteps := 400000 }) only [H12, W_drawH, go_sem, ↓reduceIte, reduceCtorEq, Nat.reduceEqDiff, Nat.reduceAdd, Nat.reduceLT, Nat.reduceLeDiff, Nat.reduceSub, Int.reduceToNat, Int.reduceLE, Int.reduceLT, Int.reduceNeg, Int.reduceBEq, Int.reduceBNe, Nat.reduceMul, Int.reduceAdd, Int.reduceMul, Int.reduceSub, Int.reduceEq, Int.reduceNe]
      (first | refine WF_pure (hturn (0)) rfl ?_ | refine WDQ_pure (hturn (0)) rfl ?_)
      simp (config := { maxSteps := 400000 }) only [H12, W_drawH, kp, hrm, g1, g2, hlt1, hlt2, go_sem, ↓reduceIte, reduceCtorEq, Nat.reduceEqDiff, Nat.reduceAdd, Nat.reduceLT, Nat.reduceLeDiff, Nat.reduceSub, Int.reduceToNat, Int.reduceLE, Int.reduceLT, Int.reduceNeg, Int.reduceBEq, Int.reduceBNe, Nat.reduceMul, Int.reduceAdd, Int.reduceMul, Int.reduceSub, Int.reduceEq, Int.reduceNe]
      refine ⟨.inr ⟨2, _, rfl, rfl⟩, ?_⟩
      (first | refine WF_pure (hturn (0)) rfl ?_ | refine WDQ_pure (hturn (0)) rfl ?_)
      simp (config := { maxSteps := 400000 }) only [H12, W_drawH, k3, kr3, kl, go_sem, ↓reduceIte, reduceCtorEq, Nat.reduceEqDiff, Nat.reduceAdd, Nat.reduceLT, Nat.reduceLeDiff, Nat.reduceSub, Int.reduceToNat, Int.reduceLE, Int.reduceLT, Int.reduceNeg, Int.reduceBEq, Int.reduceBNe, Nat.reduceMul, Int.reduceAdd, Int.reduceMul, Int.reduceSub, Int.reduceEq, Int.reduceNe]
      (first | refine WF_pure (hturn (0)) rfl ?_ | refine WDQ_pure (hturn (0)) rfl ?_)
      simp (config := { maxSteps := 400000 }) only [H12, W_drawH, k5, kr5, kh, go_sem, ↓reduceIte, reduceCtorEq, Nat.reduceEqDiff, Nat.reduceAdd, Nat.reduceLT, Nat.reduceLeDiff, Nat.reduceSub, Int.reduceToNat, Int.reduceLE, Int.reduceLT, Int.reduceNeg, Int.reduceBEq, Int.reduceBNe, Nat.reduceMul, Int.reduceAdd, Int.reduceMul, Int.reduceSub, Int.reduceEq, Int.reduceNe]
      (first | refine WF_pure (cLawSpan _ _) rfl ?_ | refine WDQ_pure (cLawSpan _ _) rfl ?_)
      simp (config := { maxSteps := 400000 }) only [H12, W_drawH, hrm, go_sem, ↓reduceIte, reduceCtorEq, Nat.reduceEqDiff, Nat.reduceAdd, Nat.reduceLT, Nat.reduceLeDiff, Nat.reduceSub, Int.reduceToNat, Int.reduceLE, Int.reduceLT, Int.reduceNeg, Int.reduceBEq, Int.reduceBNe, Nat.reduceMul, Int.reduceAdd, Int.reduceMul, Int.reduceSub, Int.reduceEq, Int.reduceNe]
      have hqe : q0 = (x, p) := by
        have e2 := e1
        rw [List.nil_append, hq0] at e2
        exact (List.cons.inj e2).1
      subst hqe
      refine WQ_next e1 () trivial ?_
      rw [List.nil_append, if_neg (show ¬ [(x, p)] = [] by simp)]
      simp (config := { maxSteps := 400000 }) only [goI, fineW, dearW, wideP, go_sem, ↓reduceIte, reduceCtorEq, Nat.reduceEqDiff, Nat.reduceAdd, Nat.reduceLT, Nat.reduceLeDiff, Nat.reduceSub, Int.reduceToNat, Int.reduceLE, Int.reduceLT, Int.reduceNeg, Int.reduceBEq, Int.reduceBNe, Nat.reduceMul, Int.reduceAdd, Int.reduceMul, Int.reduceSub, Int.reduceEq, Int.reduceNe]
    · rw [if_neg hd]
      simp (config := { maxSteps := 400000 }) only [H12, W_drawH, g1, g2, hlt1, hlt2, go_sem, ↓reduceIte, reduceCtorEq, Nat.reduceEqDiff, Nat.reduceAdd, Nat.reduceLT, Nat.reduceLeDiff, Nat.reduceSub, Int.reduceToNat, Int.reduceLE, Int.reduceLT, Int.reduceNeg, Int.reduceBEq, Int.reduceBNe, Nat.reduceMul, Int.reduceAdd, Int.reduceMul, Int.reduceSub, Int.reduceEq, Int.reduceNe]
      (first | refine WF_pure (hturn done.length) rfl ?_ | refine WDQ_pure (hturn done.length) rfl ?_)
      simp (config := { maxSteps := 400000 }) only [H12, W_drawH, go_sem, ↓reduceIte, reduceCtorEq, Nat.reduceEqDiff, Nat.reduceAdd, Nat.reduceLT, Nat.reduceLeDiff, Nat.reduceSub, Int.reduceToNat, Int.reduceLE, Int.reduceLT, Int.reduceNeg, Int.reduceBEq, Int.reduceBNe, Nat.reduceMul, Int.reduceAdd, Int.reduceMul, Int.reduceSub, Int.reduceEq, Int.reduceNe]
      (first | refine WF_pure (cAmong x.melt (T done.length) (by omega) (hT _)) rfl ?_ | refine WDQ_pure (cAmong x.melt (T done.length) (by omega) (hT _)) rfl ?_)
      simp (config := { maxSteps := 400000 }) only [H12, W_drawH, w1, go_sem, ↓reduceIte, reduceCtorEq, Nat.reduceEqDiff, Nat.reduceAdd, Nat.reduceLT, Nat.reduceLeDiff, Nat.reduceSub, Int.reduceToNat, Int.reduceLE, Int.reduceLT, Int.reduceNeg, Int.reduceBEq, Int.reduceBNe, Nat.reduceMul, Int.reduceAdd, Int.reduceMul, Int.reduceSub, Int.reduceEq, Int.reduceNe]
      (first | refine WF_pure (hturn (done.length + 1)) rfl ?_ | refine WDQ_pure (hturn (done.length + 1)) rfl ?_)
      simp (config := { maxSteps := 400000 }) only [H12, W_drawH, go_sem, ↓reduceIte, reduceCtorEq, Nat.reduceEqDiff, Nat.reduceAdd, Nat.reduceLT, Nat.reduceLeDiff, Nat.reduceSub, Int.reduceToNat, Int.reduceLE, Int.reduceLT, Int.reduceNeg, Int.reduceBEq, Int.reduceBNe, Nat.reduceMul, Int.reduceAdd, Int.reduceMul, Int.reduceSub, Int.reduceEq, Int.reduceNe]
      (first | refine WF_pure (cAmong x.shrink (T (done.length + 1)) (by omega) (hT _)) rfl ?_ | refine WDQ_pure (cAmong x.shrink (T (done.length + 1)) (by omega) (hT _)) rfl ?_)
      simp (config := { maxSteps := 400000 }) only [H12, W_drawH, go_sem, ↓reduceIte, reduceCtorEq, Nat.reduceEqDiff, Nat.reduceAdd, Nat.reduceLT, Nat.reduceLeDiff, Nat.reduceSub, Int.reduceToNat, Int.reduceLE, Int.reduceLT, Int.reduceNeg, Int.reduceBEq, Int.reduceBNe, Nat.reduceMul, Int.reduceAdd, Int.reduceMul, Int.reduceSub, Int.reduceEq, Int.reduceNe]
      (first | refine WF_pure (cLawSpan _ _) rfl ?_ | refine WDQ_pure (cLawSpan _ _) rfl ?_)
      simp (config := { maxSteps := 400000 }) only [H12, W_drawH, w2, go_sem, ↓reduceIte, reduceCtorEq, Nat.reduceEqDiff, Nat.reduceAdd, Nat.reduceLT, Nat.reduceLeDiff, Nat.reduceSub, Int.reduceToNat, Int.reduceLE, Int.reduceLT, Int.reduceNeg, Int.reduceBEq, Int.reduceBNe, Nat.reduceMul, Int.reduceAdd, Int.reduceMul, Int.reduceSub, Int.reduceEq, Int.reduceNe]
      (first | refine WF_pure (hturn (done.length + 2)) rfl ?_ | refine WDQ_pure (hturn (done.length + 2)) rfl ?_)
      simp (config := { maxSteps := 400000 }) only [H12, W_drawH, go_sem, ↓reduceIte, reduceCtorEq, Nat.reduceEqDiff, Nat.reduceAdd, Nat.reduceLT, Nat.reduceLeDiff, Nat.reduceSub, Int.reduceToNat, Int.reduceLE, Int.reduceLT, Int.reduceNeg, Int.reduceBEq, Int.reduceBNe, Nat.reduceMul, Int.reduceAdd, Int.reduceMul, Int.reduceSub, Int.reduceEq, Int.reduceNe]
      (first | refine WF_pure (cAmong ⟨amongS x.melt (T done.length), x.melt.hi⟩ (T (done.length + 2)) (b1 done.length) (hT _)) rfl ?_ | refine WDQ_pure (cAmong ⟨amongS x.melt (T done.length), x.melt.hi⟩ (T (done.length + 2)) (b1 done.length) (hT _)) rfl ?_)
      simp (config := { maxSteps := 400000 }) only [H12, W_drawH, go_sem, ↓reduceIte, reduceCtorEq, Nat.reduceEqDiff, Nat.reduceAdd, Nat.reduceLT, Nat.reduceLeDiff, Nat.reduceSub, Int.reduceToNat, Int.reduceLE, Int.reduceLT, Int.reduceNeg, Int.reduceBEq, Int.reduceBNe, Nat.reduceMul, Int.reduceAdd, Int.reduceMul, Int.reduceSub, Int.reduceEq, Int.reduceNe]
      (first | refine WF_pure (cLawSpan _ _) rfl ?_ | refine WDQ_pure (cLawSpan _ _) rfl ?_)
      simp (config := { maxSteps := 400000 }) only [H12, W_drawH, go_sem, ↓reduceIte, reduceCtorEq, Nat.reduceEqDiff, Nat.reduceAdd, Nat.reduceLT, Nat.reduceLeDiff, Nat.reduceSub, Int.reduceToNat, Int.reduceLE, Int.reduceLT, Int.reduceNeg, Int.reduceBEq, Int.reduceBNe, Nat.reduceMul, Int.reduceAdd, Int.reduceMul, Int.reduceSub, Int.reduceEq, Int.reduceNe]
      (first | refine WF_pure (cLawSpan _ _) rfl ?_ | refine WDQ_pure (cLawSpan _ _) rfl ?_)
      simp (config := { maxSteps := 400000 }) only [H12, W_drawH, w3, go_sem, ↓reduceIte, reduceCtorEq, Nat.reduceEqDiff, Nat.reduceAdd, Nat.reduceLT, Nat.reduceLeDiff, Nat.reduceSub, Int.reduceToNat, Int.reduceLE, Int.reduceLT, Int.reduceNeg, Int.reduceBEq, Int.reduceBNe, Nat.reduceMul, Int.reduceAdd, Int.reduceMul, Int.reduceSub, Int.reduceEq, Int.reduceNe]
      (first | refine WF_pure (hturn (done.length + 3)) rfl ?_ | refine WDQ_pure (hturn (done.length + 3)) rfl ?_)
      simp (config := { maxSteps := 400000 }) only [H12, W_drawH, go_sem, ↓reduceIte, reduceCtorEq, Nat.reduceEqDiff, Nat.reduceAdd, Nat.reduceLT, Nat.reduceLeDiff, Nat.reduceSub, Int.reduceToNat, Int.reduceLE, Int.reduceLT, Int.reduceNeg, Int.reduceBEq, Int.reduceBNe, Nat.reduceMul, Int.reduceAdd, Int.reduceMul, Int.reduceSub, Int.reduceEq, Int.reduceNe]
      (first | refine WF_pure (cAmong ⟨amongS x.shrink (T (done.length + 1)), x.shrink.hi⟩ (T (done.length + 3)) (b2 (done.length + 1)) (hT _)) rfl ?_ | refine WDQ_pure (cAmong ⟨amongS x.shrink (T (done.length + 1)), x.shrink.hi⟩ (T (done.length + 3)) (b2 (done.length + 1)) (hT _)) rfl ?_)
      simp (config := { maxSteps := 400000 }) only [H12, W_drawH, go_sem, ↓reduceIte, reduceCtorEq, Nat.reduceEqDiff, Nat.reduceAdd, Nat.reduceLT, Nat.reduceLeDiff, Nat.reduceSub, Int.reduceToNat, Int.reduceLE, Int.reduceLT, Int.reduceNeg, Int.reduceBEq, Int.reduceBNe, Nat.reduceMul, Int.reduceAdd, Int.reduceMul, Int.reduceSub, Int.reduceEq, Int.reduceNe]
      (first | refine WF_pure (cLawSpan _ _) rfl ?_ | refine WDQ_pure (cLawSpan _ _) rfl ?_)
      simp (config := { maxSteps := 400000 }) only [H12, W_drawH, go_sem, ↓reduceIte, reduceCtorEq, Nat.reduceEqDiff, Nat.reduceAdd, Nat.reduceLT, Nat.reduceLeDiff, Nat.reduceSub, Int.reduceToNat, Int.reduceLE, Int.reduceLT, Int.reduceNeg, Int.reduceBEq, Int.reduceBNe, Nat.reduceMul, Int.reduceAdd, Int.reduceMul, Int.reduceSub, Int.reduceEq, Int.reduceNe]
      (first | refine WF_pure (hturn done.length) rfl ?_ | refine WDQ_pure (hturn done.length) rfl ?_)
      simp (config := { maxSteps := 400000 }) only [H12, W_drawH, kp, hrm, goI_len, List.length_map, g1, g2, hlt1, hlt2, go_sem, ↓reduceIte, reduceCtorEq, Nat.reduceEqDiff, Nat.reduceAdd, Nat.reduceLT, Nat.reduceLeDiff, Nat.reduceSub, Int.reduceToNat, Int.reduceLE, Int.reduceLT, Int.reduceNeg, Int.reduceBEq, Int.reduceBNe, Nat.reduceMul, Int.reduceAdd, Int.reduceMul, Int.reduceSub, Int.reduceEq, Int.reduceNe]
      refine ⟨.inr ⟨2, _, rfl, rfl⟩, ?_⟩
      (first | refine WF_pure (hturn done.length) rfl ?_ | refine WDQ_pure (hturn done.length) rfl ?_)
      simp (config := { maxSteps := 400000 }) only [H12, W_drawH, k3, kr3, kl, go_sem, ↓reduceIte, reduceCtorEq, Nat.reduceEqDiff, Nat.reduceAdd, Nat.reduceLT, Nat.reduceLeDiff, Nat.reduceSub, Int.reduceToNat, Int.reduceLE, Int.reduceLT, Int.reduceNeg, Int.reduceBEq, Int.reduceBNe, Nat.reduceMul, Int.reduceAdd, Int.reduceMul, Int.reduceSub, Int.reduceEq, Int.reduceNe]
      (first | refine WF_pure (hturn done.length) rfl ?_ | refine WDQ_pure (hturn done.length) rfl ?_)
      simp (config := { maxSteps := 400000 }) only [H12, W_drawH, k5, kr5, kh, go_sem, ↓reduceIte, reduceCtorEq, Nat.reduceEqDiff, Nat.reduceAdd, Nat.reduceLT, Nat.reduceLeDiff, Nat.reduceSub, Int.reduceToNat, Int.reduceLE, Int.reduceLT, Int.reduceNeg, Int.reduceBEq, Int.reduceBNe, Nat.reduceMul, Int.reduceAdd, Int.reduceMul, Int.reduceSub, Int.reduceEq, Int.reduceNe]
      (first | refine WF_pure (cLawSpan _ _) rfl ?_ | refine WDQ_pure (cLawSpan _ _) rfl ?_)
      simp (config := { maxSteps := 400000 }) only [H12, W_drawH, hrm, goI_len, List.length_map, go_sem, ↓reduceIte, reduceCtorEq, Nat.reduceEqDiff, Nat.reduceAdd, Nat.reduceLT, Nat.reduceLeDiff, Nat.reduceSub, Int.reduceToNat, Int.reduceLE, Int.reduceLT, Int.reduceNeg, Int.reduceBEq, Int.reduceBNe, Nat.reduceMul, Int.reduceAdd, Int.reduceMul, Int.reduceSub, Int.reduceEq, Int.reduceNe]
      refine WQ_next e1 () trivial ?_
      rw [if_neg (show ¬ (done ++ [(x, p)]) = [] by simp)]
      simp (config := { maxSteps := 400000 }) only [hnx, goI_snoc, goI_len, List.length_append, List.length_singleton, List.map_append, List.length_map, Nat.zero_add, go_sem, ↓reduceIte, reduceCtorEq, Nat.reduceEqDiff, Nat.reduceAdd, Nat.reduceLT, Nat.reduceLeDiff, Nat.reduceSub, Int.reduceToNat, Int.reduceLE, Int.reduceLT, Int.reduceNeg, Int.reduceBEq, Int.reduceBNe, Nat.reduceMul, Int.reduceAdd, Int.reduceMul, Int.reduceSub, Int.reduceEq, Int.reduceNe]
      exact ⟨rfl, rfl, rfl⟩
end Abs
end Go.Proofs.Ythekmbikolpmlaa
