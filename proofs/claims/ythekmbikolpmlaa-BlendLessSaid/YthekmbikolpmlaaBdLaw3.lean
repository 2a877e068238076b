/-
  CONTRACTS: the laws BlendLots, BlendKept, BlendWeighed.
-/
import Derived.Test.YthekmbikolpmlaaBdLaw2
namespace Go.Proofs.Ythekmbikolpmlaa
namespace Abs
set_option linter.unusedSimpArgs false
set_option linter.unusedVariables false
set_option maxRecDepth 100000

/-! lots of the waxes -/
def LotsIn : List BdWax → List BdLot → Prop
  | [], [] => True
  | w :: l, z :: y => ((w.melt.lo ≤ z.melt ∧ z.melt ≤ w.melt.hi) ∧ (w.shrink.lo ≤ z.shrink ∧ z.shrink ≤ w.shrink.hi)) ∧ LotsIn l y
  | _, _ => False
theorem lotsIn_len : ∀ {l : List BdWax} {y : List BdLot}, LotsIn l y → y.length = l.length
  | [], [], _ => rfl
  | w :: l, z :: y, h => by rw [List.length_cons, List.length_cons, lotsIn_len h.2]
  | [], _ :: _, h => h.elim
  | _ :: _, [], h => h.elim
theorem lotsIn_go {x : List Int} (hx : ∀ v, v ∈ x → 0 ≤ v ∧ v ≤ 65535) : ∀ (l : List BdWax) (i : Nat), (∀ w, w ∈ l → BdWaxOk w) → LotsIn l (lotsGo x i l)
  | [], _, _ => trivial
  | w :: l, i, h => by
    have hw := h w (by simp)
    exact ⟨⟨amongS_in hw.melt.2.1 (turnS_bd hx _).1, amongS_in hw.shrink.2.1 (turnS_bd hx _).1⟩, lotsIn_go hx l (i + 1) fun v hv => h v (by simp [hv])⟩
theorem lotsIn_end (b : Bool) : ∀ (l : List BdWax), (∀ w, w ∈ l → BdWaxOk w) → LotsIn l (endLots l b)
  | [], _ => trivial
  | w :: l, h => by
    have hw := h w (by simp)
    have h1 := hw.melt
    have h2 := hw.shrink
    refine ⟨?_, lotsIn_end b l fun v hv => h v (by simp [hv])⟩
    cases b
    · exact ⟨⟨Int.le_refl _, h1.2.1⟩, ⟨Int.le_refl _, h2.2.1⟩⟩
    · exact ⟨⟨h1.2.1, Int.le_refl _⟩, ⟨h2.2.1, Int.le_refl _⟩⟩
theorem lots_sums : ∀ {l : List BdWax} {r : List Int} {y : List BdLot}, LotsIn l y → r.length = l.length → (∀ n, n ∈ r → 0 ≤ n) →
    ((l.zip r).zip y).all lotIn = true ∧ (sumP fSoft (l.zip r) ≤ (((l.zip r).zip y).map mMelt).sum ∧ (((l.zip r).zip y).map mMelt).sum ≤ sumP fHard (l.zip r)) ∧
      (sumP fLeast (l.zip r) ≤ (((l.zip r).zip y).map mShrink).sum ∧ (((l.zip r).zip y).map mShrink).sum ≤ sumP fMost (l.zip r))
  | [], [], [], _, _, _ => by simp [sumP]
  | w :: l, n :: r, z :: y, h, hl, hr => by
    obtain ⟨⟨⟨a1, a2⟩, a3, a4⟩, h2⟩ := h
    have hn := hr n (by simp)
    obtain ⟨i1, ⟨i2, i3⟩, i4, i5⟩ := lots_sums h2 (by simpa using hl) fun m hm => hr m (by simp [hm])
    have b1 := Int.mul_le_mul_of_nonneg_left a1 hn
    have b2 := Int.mul_le_mul_of_nonneg_left a2 hn
    have b3 := Int.mul_le_mul_of_nonneg_left a3 hn
    have b4 := Int.mul_le_mul_of_nonneg_left a4 hn
    refine ⟨?_, ?_, ?_⟩
    · simp only [List.zip_cons_cons, List.all_cons, i1, Bool.and_true, lotIn, gIn]
      simp [a1, a2, a3, a4]
    · simp only [sumP, List.zip_cons_cons, List.map_cons, List.sum_cons, fSoft, fHard, mMelt] at i2 i3 ⊢
      omega
    · simp only [sumP, List.zip_cons_cons, List.map_cons, List.sum_cons, fLeast, fMost, mShrink] at i4 i5 ⊢
      omega
theorem end_sums (b : Bool) : ∀ {l : List BdWax} {r : List Int}, r.length = l.length →
    (((l.zip r).zip (endLots l b)).map mMelt).sum = (if b = true then sumP fHard (l.zip r) else sumP fSoft (l.zip r)) ∧ (((l.zip r).zip (endLots l b)).map mShrink).sum = (if b = true then sumP fMost (l.zip r) else sumP fLeast (l.zip r))
  | [], [], _ => by cases b <;> simp [sumP]
  | w :: l, n :: r, hl => by
    obtain ⟨i1, i2⟩ := end_sums b (l := l) (r := r) (by simpa using hl)
    simp only [endLots] at i1 i2 ⊢
    cases b
    · simp only [Bool.false_eq_true, if_false, sumP, List.zip_cons_cons, List.map_cons, List.sum_cons, fSoft, fLeast, mMelt, mShrink] at i1 i2 ⊢
      rw [i1, i2]; exact ⟨rfl, rfl⟩
    · simp only [if_true, sumP, List.zip_cons_cons, List.map_cons, List.sum_cons, fHard, fMost, mMelt, mShrink] at i1 i2 ⊢
      rw [i1, i2]; exact ⟨rfl, rfl⟩
theorem asked_ok {l : List BdWax} {r : List Int} (he : bdE l = 0) (hr : RecOk l.length r) : bdAsked l r = 0 := by rw [bdAsked, if_pos he, recErr_ok hr]
theorem made_in {l : List BdWax} {r : List Int} {y : List BdLot} (he : bdE l = 0) (hr : RecOk l.length r) (hy : LotsIn l y) :
    ∃ a b, bdMade l r y = (a, b, 0) ∧ ((meltP (l.zip r)).lo ≤ a ∧ a ≤ (meltP (l.zip r)).hi) ∧ ((shrinkP (l.zip r)).lo ≤ b ∧ b ≤ (shrinkP (l.zip r)).hi) := by
  obtain ⟨h1, h2, h3⟩ := lots_sums hy hr.len fun n hn => (hr.rng n hn).1
  refine ⟨_, _, by rw [bdMade, if_pos (asked_ok he hr), if_pos (lotsIn_len hy), if_pos h1], ?_, ?_⟩
  · simp only [meltP]; omega
  · simp only [shrinkP]; omega
theorem made_end {l : List BdWax} {r : List Int} (b : Bool) (he : bdE l = 0) (hr : RecOk l.length r) :
    bdMade l r (endLots l b) = (if b = true then (meltP (l.zip r)).hi else (meltP (l.zip r)).lo, if b = true then (shrinkP (l.zip r)).hi else (shrinkP (l.zip r)).lo, 0) := by
  have hy := lotsIn_end b l (bdWaxesOk_of he).wax
  obtain ⟨h1, _, _⟩ := lots_sums hy hr.len fun n hn => (hr.rng n hn).1
  obtain ⟨e1, e2⟩ := end_sums b hr.len
  rw [bdMade, if_pos (asked_ok he hr), if_pos (lotsIn_len hy), if_pos h1, e1, e2]
  cases b
  · simp only [Bool.false_eq_true, if_false, meltP, shrinkP]; rw [Int.add_comm]
  · simp only [if_true, meltP, shrinkP]; rw [Int.add_comm]
theorem value_ok {l : List BdWax} {r : List Int} (he : bdE l = 0) (hr : RecOk l.length r) : bdValue l r = (meltP (l.zip r), shrinkP (l.zip r), sumP fPrice (l.zip r), 0) := by rw [bdValue, if_pos (asked_ok he hr)]
set_option maxHeartbeats 2000000 in
theorem lBlendLots (l : List BdWax) (x y : List Int) (hx : U16s x) (hy : U16s y) : PCall Try.prog 7 [bdWaxes l, u16s x, u16s y] (.bool true) := by
  refine pcall_of_wp draws (fn := Try.f7) (n := 133) (rs := [.tmp 6]) (by kernel_rfl) rfl rfl rfl ok7 (Nat.le_of_ble_eq_true rfl) ?_
  simp (config := { maxSteps := 400000 }) only [go_sem, ↓reduceIte, reduceCtorEq, Nat.reduceEqDiff, Nat.reduceAdd, Nat.reduceLT, Nat.reduceLeDiff, Nat.reduceSub, Int.reduceToNat, Int.reduceLE, Int.reduceLT, Int.reduceNeg, Int.reduceBEq, Int.reduceBNe, Nat.reduceMul, Int.reduceAdd, Int.reduceMul, Int.reduceSub, Int.reduceEq, Int.reduceNe]
  (first | refine WF_pure (cValid l) rfl ?_ | refine WDQ_pure (cValid l) rfl ?_)
  simp (config := { maxSteps := 400000 }) only [go_sem, ↓reduceIte, reduceCtorEq, Nat.reduceEqDiff, Nat.reduceAdd, Nat.reduceLT, Nat.reduceLeDiff, Nat.reduceSub, Int.reduceToNat, Int.reduceLE, Int.reduceLT, Int.reduceNeg, Int.reduceBEq, Int.reduceBNe, Nat.reduceMul, Int.reduceAdd, Int.reduceMul, Int.reduceSub, Int.reduceEq, Int.reduceNe]
  cases he : (bdE l == 0)
  · have he' : ¬ bdE l = 0 := by simpa using he
    simp (config := { maxSteps := 400000 }) only [go_sem, ↓reduceIte, reduceCtorEq, Nat.reduceEqDiff, Nat.reduceAdd, Nat.reduceLT, Nat.reduceLeDiff, Nat.reduceSub, Int.reduceToNat, Int.reduceLE, Int.reduceLT, Int.reduceNeg, Int.reduceBEq, Int.reduceBNe, Nat.reduceMul, Int.reduceAdd, Int.reduceMul, Int.reduceSub, Int.reduceEq, Int.reduceNe]
    refine WF_pure ((cValue l [] false).argless (args' := [bdWaxes l, .nilslice]) ⟨.inl rfl, .inr ⟨rfl, 1, rfl⟩, trivial⟩) rfl ?_
    have hne : (bdE l != 0) = true := by simp [bne, he]
    have hv : bdValue l [] = (⟨0, 0⟩, ⟨0, 0⟩, 0, bdE l) := by
      have : bdAsked l [] = bdE l := by rw [bdAsked, if_neg he']
      rw [bdValue, this, if_neg he']
    simp (config := { maxSteps := 400000 }) only [valuePV, hv, hne, go_sem, ↓reduceIte, reduceCtorEq, Nat.reduceEqDiff, Nat.reduceAdd, Nat.reduceLT, Nat.reduceLeDiff, Nat.reduceSub, Int.reduceToNat, Int.reduceLE, Int.reduceLT, Int.reduceNeg, Int.reduceBEq, Int.reduceBNe, Nat.reduceMul, Int.reduceAdd, Int.reduceMul, Int.reduceSub, Int.reduceEq, Int.reduceNe]
    (first | refine WF_pure (cAwake) rfl ?_ | refine WDQ_pure (cAwake) rfl ?_)
    simp (config := { maxSteps := 400000 }) only [go_sem, ↓reduceIte, reduceCtorEq, Nat.reduceEqDiff, Nat.reduceAdd, Nat.reduceLT, Nat.reduceLeDiff, Nat.reduceSub, Int.reduceToNat, Int.reduceLE, Int.reduceLT, Int.reduceNeg, Int.reduceBEq, Int.reduceBNe, Nat.reduceMul, Int.reduceAdd, Int.reduceMul, Int.reduceSub, Int.reduceEq, Int.reduceNe]
  have he' : bdE l = 0 := by simpa using he
  have hl := bdWaxesOk_of he'
  have hr := parted_ok hx.1 hl.len.1
  simp (config := { maxSteps := 400000 }) only [go_sem, ↓reduceIte, reduceCtorEq, Nat.reduceEqDiff, Nat.reduceAdd, Nat.reduceLT, Nat.reduceLeDiff, Nat.reduceSub, Int.reduceToNat, Int.reduceLE, Int.reduceLT, Int.reduceNeg, Int.reduceBEq, Int.reduceBNe, Nat.reduceMul, Int.reduceAdd, Int.reduceMul, Int.reduceSub, Int.reduceEq, Int.reduceNe]
  (first | refine WF_pure (cParted l.length x false hl.len hx.1 hx.2) rfl ?_ | refine WDQ_pure (cParted l.length x false hl.len hx.1 hx.2) rfl ?_)
  simp (config := { maxSteps := 400000 }) only [go_sem, ↓reduceIte, reduceCtorEq, Nat.reduceEqDiff, Nat.reduceAdd, Nat.reduceLT, Nat.reduceLeDiff, Nat.reduceSub, Int.reduceToNat, Int.reduceLE, Int.reduceLT, Int.reduceNeg, Int.reduceBEq, Int.reduceBNe, Nat.reduceMul, Int.reduceAdd, Int.reduceMul, Int.reduceSub, Int.reduceEq, Int.reduceNe]
  generalize parted l.length x = r at hr
  obtain ⟨a, b, hm, ha, hb⟩ := made_in he' hr (lotsIn_go hy.1 l 0 hl.wax)
  (first | refine WF_pure (cValue l r false) rfl ?_ | refine WDQ_pure (cValue l r false) rfl ?_)
  simp (config := { maxSteps := 400000 }) only [valuePV, value_ok he' hr, go_sem, ↓reduceIte, reduceCtorEq, Nat.reduceEqDiff, Nat.reduceAdd, Nat.reduceLT, Nat.reduceLeDiff, Nat.reduceSub, Int.reduceToNat, Int.reduceLE, Int.reduceLT, Int.reduceNeg, Int.reduceBEq, Int.reduceBNe, Nat.reduceMul, Int.reduceAdd, Int.reduceMul, Int.reduceSub, Int.reduceEq, Int.reduceNe]
  (first | refine WF_pure (cLots l y false hl hy.1 hy.2) rfl ?_ | refine WDQ_pure (cLots l y false hl hy.1 hy.2) rfl ?_)
  simp (config := { maxSteps := 400000 }) only [go_sem, ↓reduceIte, reduceCtorEq, Nat.reduceEqDiff, Nat.reduceAdd, Nat.reduceLT, Nat.reduceLeDiff, Nat.reduceSub, Int.reduceToNat, Int.reduceLE, Int.reduceLT, Int.reduceNeg, Int.reduceBEq, Int.reduceBNe, Nat.reduceMul, Int.reduceAdd, Int.reduceMul, Int.reduceSub, Int.reduceEq, Int.reduceNe]
  (first | refine WF_pure (cMade l r _ false false) rfl ?_ | refine WDQ_pure (cMade l r _ false false) rfl ?_)
  simp (config := { maxSteps := 400000 }) only [triple, hm, go_sem, ↓reduceIte, reduceCtorEq, Nat.reduceEqDiff, Nat.reduceAdd, Nat.reduceLT, Nat.reduceLeDiff, Nat.reduceSub, Int.reduceToNat, Int.reduceLE, Int.reduceLT, Int.reduceNeg, Int.reduceBEq, Int.reduceBNe, Nat.reduceMul, Int.reduceAdd, Int.reduceMul, Int.reduceSub, Int.reduceEq, Int.reduceNe]
  (first | refine WF_pure (cEndLots l false hl) rfl ?_ | refine WDQ_pure (cEndLots l false hl) rfl ?_)
  simp (config := { maxSteps := 400000 }) only [go_sem, ↓reduceIte, reduceCtorEq, Nat.reduceEqDiff, Nat.reduceAdd, Nat.reduceLT, Nat.reduceLeDiff, Nat.reduceSub, Int.reduceToNat, Int.reduceLE, Int.reduceLT, Int.reduceNeg, Int.reduceBEq, Int.reduceBNe, Nat.reduceMul, Int.reduceAdd, Int.reduceMul, Int.reduceSub, Int.reduceEq, Int.reduceNe]
  (first | refine WF_pure (cMade l r _ false false) rfl ?_ | refine WDQ_pure (cMade l r _ false false) rfl ?_)
  simp (config := { maxSteps := 400000 }) only [triple, made_end false he' hr, go_sem, ↓reduceIte, reduceCtorEq, Nat.reduceEqDiff, Nat.reduceAdd, Nat.reduceLT, Nat.reduceLeDiff, Nat.reduceSub, Int.reduceToNat, Int.reduceLE, Int.reduceLT, Int.reduceNeg, Int.reduceBEq, Int.reduceBNe, Nat.reduceMul, Int.reduceAdd, Int.reduceMul, Int.reduceSub, Int.reduceEq, Int.reduceNe]
  (first | refine WF_pure (cEndLots l true hl) rfl ?_ | refine WDQ_pure (cEndLots l true hl) rfl ?_)
  simp (config := { maxSteps := 400000 }) only [go_sem, ↓reduceIte, reduceCtorEq, Nat.reduceEqDiff, Nat.reduceAdd, Nat.reduceLT, Nat.reduceLeDiff, Nat.reduceSub, Int.reduceToNat, Int.reduceLE, Int.reduceLT, Int.reduceNeg, Int.reduceBEq, Int.reduceBNe, Nat.reduceMul, Int.reduceAdd, Int.reduceMul, Int.reduceSub, Int.reduceEq, Int.reduceNe]
  (first | refine WF_pure (cMade l r _ false false) rfl ?_ | refine WDQ_pure (cMade l r _ false false) rfl ?_)
  simp (config := { maxSteps := 400000 }) only [triple, made_end true he' hr, ha.1, ha.2, hb.1, hb.2, go_sem, ↓reduceIte, reduceCtorEq, Nat.reduceEqDiff, Nat.reduceAdd, Nat.reduceLT, Nat.reduceLeDiff, Nat.reduceSub, Int.reduceToNat, Int.reduceLE, Int.reduceLT, Int.reduceNeg, Int.reduceBEq, Int.reduceBNe, Nat.reduceMul, Int.reduceAdd, Int.reduceMul, Int.reduceSub, Int.reduceEq, Int.reduceNe]
  (first | refine WF_pure (cLawSpan _ _) rfl ?_ | refine WDQ_pure (cLawSpan _ _) rfl ?_)
  simp (config := { maxSteps := 400000 }) only [beq_self_eq_true, go_sem, ↓reduceIte, reduceCtorEq, Nat.reduceEqDiff, Nat.reduceAdd, Nat.reduceLT, Nat.reduceLeDiff, Nat.reduceSub, Int.reduceToNat, Int.reduceLE, Int.reduceLT, Int.reduceNeg, Int.reduceBEq, Int.reduceBNe, Nat.reduceMul, Int.reduceAdd, Int.reduceMul, Int.reduceSub, Int.reduceEq, Int.reduceNe]
  (first | refine WF_pure (cLawSpan _ _) rfl ?_ | refine WDQ_pure (cLawSpan _ _) rfl ?_)
  simp (config := { maxSteps := 400000 }) only [beq_self_eq_true, go_sem, ↓reduceIte, reduceCtorEq, Nat.reduceEqDiff, Nat.reduceAdd, Nat.reduceLT, Nat.reduceLeDiff, Nat.reduceSub, Int.reduceToNat, Int.reduceLE, Int.reduceLT, Int.reduceNeg, Int.reduceBEq, Int.reduceBNe, Nat.reduceMul, Int.reduceAdd, Int.reduceMul, Int.reduceSub, Int.reduceEq, Int.reduceNe]
  (first | refine WF_pure (cAwake) rfl ?_ | refine WDQ_pure (cAwake) rfl ?_)
  simp (config := { maxSteps := 400000 }) only [go_sem, ↓reduceIte, reduceCtorEq, Nat.reduceEqDiff, Nat.reduceAdd, Nat.reduceLT, Nat.reduceLeDiff, Nat.reduceSub, Int.reduceToNat, Int.reduceLE, Int.reduceLT, Int.reduceNeg, Int.reduceBEq, Int.reduceBNe, Nat.reduceMul, Int.reduceAdd, Int.reduceMul, Int.reduceSub, Int.reduceEq, Int.reduceNe]

/-! kept -/
def outS (w : BdWish) (a b : Int) : Bool := decide (a < 20 * w.melt.lo) || decide (20 * w.melt.hi < a) || decide (b < 20 * w.shrink.lo) || decide (20 * w.shrink.hi < b)
theorem cOutside (w : BdWish) (a b : Int) (hm : 0 ≤ w.melt.lo ∧ w.melt.lo ≤ w.melt.hi ∧ w.melt.hi ≤ 2000) (hs : 0 ≤ w.shrink.lo ∧ w.shrink.lo ≤ w.shrink.hi ∧ w.shrink.hi ≤ 1000) : PCall Try.prog 41 [w.pv, .int .i64 a, .int .i64 b] (.bool (outS w a b)) := by
  refine pcall_of_wp draws (fn := Try.f41) (n := 37) (rs := [.tmp 6]) (by kernel_rfl) rfl rfl rfl ok41 (Nat.le_of_ble_eq_true rfl) ?_
  have m1 : IntKind.i64.wrap (20 * w.melt.lo) = 20 * w.melt.lo := wrap_in (by omega) (by omega)
  have m2 : IntKind.i64.wrap (20 * w.melt.hi) = 20 * w.melt.hi := wrap_in (by omega) (by omega)
  have m3 : IntKind.i64.wrap (20 * w.shrink.lo) = 20 * w.shrink.lo := wrap_in (by omega) (by omega)
  have m4 : IntKind.i64.wrap (20 * w.shrink.hi) = 20 * w.shrink.hi := wrap_in (by omega) (by omega)
  cases h1 : decide (a < 20 * w.melt.lo) <;> cases h2 : decide (20 * w.melt.hi < a) <;> cases h3 : decide (b < 20 * w.shrink.lo) <;> simp (config := { maxSteps := 400000 }) only [m1, m2, m3, m4, h1, h2, h3, go_sem, ↓reduceIte, reduceCtorEq, Nat.reduceEqDiff, Nat.reduceAdd, Nat.reduceLT, Nat.reduceLeDiff, Nat.reduceSub, Int.reduceToNat, Int.reduceLE, Int.reduceLT, Int.reduceNeg, Int.reduceBEq, Int.reduceBNe, Nat.reduceMul, Int.reduceAdd, Int.reduceMul, Int.reduceSub, Int.reduceEq, Int.reduceNe] <;> simp [outS, h1, h2, h3]
theorem fits_at {l : List BdWax} {w : BdWish} {r : List Int} (hw : wishErr l w = 0) (hr : RecOk l.length r) : bdFits l w r = (whyS l w r, 0) := by rw [bdFits, if_pos hw, if_pos (recErr_ok hr)]
theorem wish_bdE {l : List BdWax} {w : BdWish} (h : wishErr l w = 0) : bdE l = 0 := by
  unfold wishErr at h
  split at h
  · assumption
  · rename_i hn; exact absurd h hn
theorem zip_any_at : ∀ {r : List Int} {ps : List Span}, r.length = ps.length → ((r.zip ps).any fun q => !gIn q.1 q.2.lo q.2.hi) = !((r.zip ps).all fun q => gIn q.1 q.2.lo q.2.hi)
  | _, _, _ => by rw [← List.not_all_eq_any_not]
theorem why_out {l : List BdWax} {w : BdWish} {r : List Int} (h1 : whyS l w r ≠ 1) (hm : (meltP (l.zip r)).lo ≤ (meltP (l.zip r)).hi) (hs : (shrinkP (l.zip r)).lo ≤ (shrinkP (l.zip r)).hi) :
    (outS w (meltP (l.zip r)).lo (shrinkP (l.zip r)).lo || outS w (meltP (l.zip r)).hi (shrinkP (l.zip r)).hi) = (whyS l w r != 0) := by
  unfold whyS at h1 ⊢
  unfold outS
  generalize meltP (l.zip r) = m at hm h1 ⊢
  generalize shrinkP (l.zip r) = s at hs h1 ⊢
  rw [Bool.eq_iff_iff]
  split
  · rename_i hp; rw [if_pos hp] at h1; exact absurd rfl h1
  · simp only [Bool.or_eq_true, decide_eq_true_eq, bne_iff_ne, ne_eq]
    split
    · simp; omega
    · split
      · simp; omega
      · split
        · simp; omega
        · simp; omega
theorem why_in {l : List BdWax} {w : BdWish} {r : List Int} {a b : Int} (h0 : whyS l w r = 0) (ha : (meltP (l.zip r)).lo ≤ a ∧ a ≤ (meltP (l.zip r)).hi) (hb : (shrinkP (l.zip r)).lo ≤ b ∧ b ≤ (shrinkP (l.zip r)).hi) : outS w a b = false := by
  unfold whyS at h0
  unfold outS
  split at h0
  · cases h0
  · split at h0
    · cases h0
    · split at h0
      · cases h0
      · split at h0
        · cases h0
        · simp; omega
set_option maxHeartbeats 2000000 in
theorem lBlendKept (l : List BdWax) (w : BdWish) (x y : List Int) (hx : U16s x) (hy : U16s y) : PCall Try.prog 8 [bdWaxes l, w.pv, .agg [u16s x, u16s y]] (.bool true) := by
  refine pcall_of_wp draws (fn := Try.f8) (n := 161) (rs := [.tmp 6]) (by kernel_rfl) rfl rfl rfl ok8 (Nat.le_of_ble_eq_true rfl) ?_
  simp (config := { maxSteps := 400000 }) only [go_sem, ↓reduceIte, reduceCtorEq, Nat.reduceEqDiff, Nat.reduceAdd, Nat.reduceLT, Nat.reduceLeDiff, Nat.reduceSub, Int.reduceToNat, Int.reduceLE, Int.reduceLT, Int.reduceNeg, Int.reduceBEq, Int.reduceBNe, Nat.reduceMul, Int.reduceAdd, Int.reduceMul, Int.reduceSub, Int.reduceEq, Int.reduceNe]
  (first | refine WF_pure (cRefWish l w) rfl ?_ | refine WDQ_pure (cRefWish l w) rfl ?_)
  simp (config := { maxSteps := 400000 }) only [go_sem, ↓reduceIte, reduceCtorEq, Nat.reduceEqDiff, Nat.reduceAdd, Nat.reduceLT, Nat.reduceLeDiff, Nat.reduceSub, Int.reduceToNat, Int.reduceLE, Int.reduceLT, Int.reduceNeg, Int.reduceBEq, Int.reduceBNe, Nat.reduceMul, Int.reduceAdd, Int.reduceMul, Int.reduceSub, Int.reduceEq, Int.reduceNe]
  refine WB_split (fun he => ?_) (fun he => ?_)
  · have he' : ¬ wishErr l w = 0 := by simpa using he
    simp (config := { maxSteps := 400000 }) only [go_sem, ↓reduceIte, reduceCtorEq, Nat.reduceEqDiff, Nat.reduceAdd, Nat.reduceLT, Nat.reduceLeDiff, Nat.reduceSub, Int.reduceToNat, Int.reduceLE, Int.reduceLT, Int.reduceNeg, Int.reduceBEq, Int.reduceBNe, Nat.reduceMul, Int.reduceAdd, Int.reduceMul, Int.reduceSub, Int.reduceEq, Int.reduceNe]
    refine WF_pure ((cFits l w [] false).argless (args' := [bdWaxes l, w.pv, .nilslice]) ⟨.inl rfl, .inl rfl, .inr ⟨rfl, 1, rfl⟩, trivial⟩) rfl ?_
    have hv : bdFits l w [] = (0, wishErr l w) := by rw [bdFits, if_neg he']
    simp (config := { maxSteps := 400000 }) only [pairPV, hv, he, go_sem, ↓reduceIte, reduceCtorEq, Nat.reduceEqDiff, Nat.reduceAdd, Nat.reduceLT, Nat.reduceLeDiff, Nat.reduceSub, Int.reduceToNat, Int.reduceLE, Int.reduceLT, Int.reduceNeg, Int.reduceBEq, Int.reduceBNe, Nat.reduceMul, Int.reduceAdd, Int.reduceMul, Int.reduceSub, Int.reduceEq, Int.reduceNe]
    (first | refine WF_pure (cAwake) rfl ?_ | refine WDQ_pure (cAwake) rfl ?_)
    simp (config := { maxSteps := 400000 }) only [go_sem, ↓reduceIte, reduceCtorEq, Nat.reduceEqDiff, Nat.reduceAdd, Nat.reduceLT, Nat.reduceLeDiff, Nat.reduceSub, Int.reduceToNat, Int.reduceLE, Int.reduceLT, Int.reduceNeg, Int.reduceBEq, Int.reduceBNe, Nat.reduceMul, Int.reduceAdd, Int.reduceMul, Int.reduceSub, Int.reduceEq, Int.reduceNe]
  have he' : wishErr l w = 0 := by simpa using he
  obtain ⟨hl, hw⟩ := wishOk_of he'
  have hbe := wish_bdE he'
  have hr := parted_ok hx.1 hl.len.1
  simp (config := { maxSteps := 400000 }) only [go_sem, ↓reduceIte, reduceCtorEq, Nat.reduceEqDiff, Nat.reduceAdd, Nat.reduceLT, Nat.reduceLeDiff, Nat.reduceSub, Int.reduceToNat, Int.reduceLE, Int.reduceLT, Int.reduceNeg, Int.reduceBEq, Int.reduceBNe, Nat.reduceMul, Int.reduceAdd, Int.reduceMul, Int.reduceSub, Int.reduceEq, Int.reduceNe]
  (first | refine WF_pure (cParted l.length x false hl.len hx.1 hx.2) rfl ?_ | refine WDQ_pure (cParted l.length x false hl.len hx.1 hx.2) rfl ?_)
  simp (config := { maxSteps := 400000 }) only [go_sem, ↓reduceIte, reduceCtorEq, Nat.reduceEqDiff, Nat.reduceAdd, Nat.reduceLT, Nat.reduceLeDiff, Nat.reduceSub, Int.reduceToNat, Int.reduceLE, Int.reduceLT, Int.reduceNeg, Int.reduceBEq, Int.reduceBNe, Nat.reduceMul, Int.reduceAdd, Int.reduceMul, Int.reduceSub, Int.reduceEq, Int.reduceNe]
  generalize parted l.length x = r at hr
  obtain ⟨a, b, hm, ha, hb⟩ := made_in hbe hr (lotsIn_go hy.1 l 0 hl.wax)
  (first | refine WF_pure (cFits l w r false) rfl ?_ | refine WDQ_pure (cFits l w r false) rfl ?_)
  simp (config := { maxSteps := 400000 }) only [pairPV, fits_at he' hr, go_sem, ↓reduceIte, reduceCtorEq, Nat.reduceEqDiff, Nat.reduceAdd, Nat.reduceLT, Nat.reduceLeDiff, Nat.reduceSub, Int.reduceToNat, Int.reduceLE, Int.reduceLT, Int.reduceNeg, Int.reduceBEq, Int.reduceBNe, Nat.reduceMul, Int.reduceAdd, Int.reduceMul, Int.reduceSub, Int.reduceEq, Int.reduceNe]
  (first | refine WF_pure (cLots l y false hl hy.1 hy.2) rfl ?_ | refine WDQ_pure (cLots l y false hl hy.1 hy.2) rfl ?_)
  simp (config := { maxSteps := 400000 }) only [go_sem, ↓reduceIte, reduceCtorEq, Nat.reduceEqDiff, Nat.reduceAdd, Nat.reduceLT, Nat.reduceLeDiff, Nat.reduceSub, Int.reduceToNat, Int.reduceLE, Int.reduceLT, Int.reduceNeg, Int.reduceBEq, Int.reduceBNe, Nat.reduceMul, Int.reduceAdd, Int.reduceMul, Int.reduceSub, Int.reduceEq, Int.reduceNe]
  (first | refine WF_pure (cMade l r _ false false) rfl ?_ | refine WDQ_pure (cMade l r _ false false) rfl ?_)
  simp (config := { maxSteps := 400000 }) only [triple, hm, go_sem, ↓reduceIte, reduceCtorEq, Nat.reduceEqDiff, Nat.reduceAdd, Nat.reduceLT, Nat.reduceLeDiff, Nat.reduceSub, Int.reduceToNat, Int.reduceLE, Int.reduceLT, Int.reduceNeg, Int.reduceBEq, Int.reduceBNe, Nat.reduceMul, Int.reduceAdd, Int.reduceMul, Int.reduceSub, Int.reduceEq, Int.reduceNe]
  (first | refine WF_pure (cEndLots l false hl) rfl ?_ | refine WDQ_pure (cEndLots l false hl) rfl ?_)
  simp (config := { maxSteps := 400000 }) only [go_sem, ↓reduceIte, reduceCtorEq, Nat.reduceEqDiff, Nat.reduceAdd, Nat.reduceLT, Nat.reduceLeDiff, Nat.reduceSub, Int.reduceToNat, Int.reduceLE, Int.reduceLT, Int.reduceNeg, Int.reduceBEq, Int.reduceBNe, Nat.reduceMul, Int.reduceAdd, Int.reduceMul, Int.reduceSub, Int.reduceEq, Int.reduceNe]
  (first | refine WF_pure (cMade l r _ false false) rfl ?_ | refine WDQ_pure (cMade l r _ false false) rfl ?_)
  simp (config := { maxSteps := 400000 }) only [triple, made_end false hbe hr, go_sem, ↓reduceIte, reduceCtorEq, Nat.reduceEqDiff, Nat.reduceAdd, Nat.reduceLT, Nat.reduceLeDiff, Nat.reduceSub, Int.reduceToNat, Int.reduceLE, Int.reduceLT, Int.reduceNeg, Int.reduceBEq, Int.reduceBNe, Nat.reduceMul, Int.reduceAdd, Int.reduceMul, Int.reduceSub, Int.reduceEq, Int.reduceNe]
  (first | refine WF_pure (cEndLots l true hl) rfl ?_ | refine WDQ_pure (cEndLots l true hl) rfl ?_)
  simp (config := { maxSteps := 400000 }) only [go_sem, ↓reduceIte, reduceCtorEq, Nat.reduceEqDiff, Nat.reduceAdd, Nat.reduceLT, Nat.reduceLeDiff, Nat.reduceSub, Int.reduceToNat, Int.reduceLE, Int.reduceLT, Int.reduceNeg, Int.reduceBEq, Int.reduceBNe, Nat.reduceMul, Int.reduceAdd, Int.reduceMul, Int.reduceSub, Int.reduceEq, Int.reduceNe]
  (first | refine WF_pure (cMade l r _ false false) rfl ?_ | refine WDQ_pure (cMade l r _ false false) rfl ?_)
  simp (config := { maxSteps := 400000 }) only [triple, made_end true hbe hr, go_sem, ↓reduceIte, reduceCtorEq, Nat.reduceEqDiff, Nat.reduceAdd, Nat.reduceLT, Nat.reduceLeDiff, Nat.reduceSub, Int.reduceToNat, Int.reduceLE, Int.reduceLT, Int.reduceNeg, Int.reduceBEq, Int.reduceBNe, Nat.reduceMul, Int.reduceAdd, Int.reduceMul, Int.reduceSub, Int.reduceEq, Int.reduceNe]
  have hmlo : (meltP (l.zip r)).lo ≤ (meltP (l.zip r)).hi := by omega
  have hslo : (shrinkP (l.zip r)).lo ≤ (shrinkP (l.zip r)).hi := by omega
  refine WB_split (fun h1 => ?_) (fun h1 => ?_)
  · -- the parts are out
    have h1' : whyS l w r = 1 := by simpa using h1
    have hpo : partsOut w r = true := by
      unfold whyS at h1'
      split at h1'
      · assumption
      · split at h1'
        · cases h1'
        · split at h1'
          · cases h1'
          · split at h1' <;> cases h1'
    have hzl : (r.zip w.parts).length = r.length := by have := hr.len; have := hw.len; simp; omega
    have hz1 : ((r.zip w.parts).map fun q => q.1) = r := by have := zip_fst (fun x => x) (l := r) (r := w.parts) (by have := hr.len; have := hw.len; omega); simpa using this
    have hz2 : ((r.zip w.parts).map fun q => q.2) = w.parts := by have := zip_snd (fun x => x) (l := r) (r := w.parts) (by have := hr.len; have := hw.len; omega); simpa using this
    have hr5 := hl.len
    have hrl := hr.len
    have hwl := hw.len
    simp (config := { maxSteps := 400000 }) only [go_sem, ↓reduceIte, reduceCtorEq, Nat.reduceEqDiff, Nat.reduceAdd, Nat.reduceLT, Nat.reduceLeDiff, Nat.reduceSub, Int.reduceToNat, Int.reduceLE, Int.reduceLT, Int.reduceNeg, Int.reduceBEq, Int.reduceBNe, Nat.reduceMul, Int.reduceAdd, Int.reduceMul, Int.reduceSub, Int.reduceEq, Int.reduceNe]
    refine W_rangeA [4, 9] (r.zip w.parts) (by omega) (τ := Bool) (fun done rest t => ((r.zip w.parts).all fun q => gIn q.1 q.2.lo q.2.hi) = (t && rest.all fun q => gIn q.1 q.2.lo q.2.hi)) (fun done t => [(22, .p (.int .i64 done.length)), (21, .p (.bool t))]) (fun _ _ => [.row 5 [.p w.pv]]) true rfl ?_ ?_ ?_
    · simp (config := { maxSteps := 400000 }) only [go_sem, ↓reduceIte, reduceCtorEq, Nat.reduceEqDiff, Nat.reduceAdd, Nat.reduceLT, Nat.reduceLeDiff, Nat.reduceSub, Int.reduceToNat, Int.reduceLE, Int.reduceLT, Int.reduceNeg, Int.reduceBEq, Int.reduceBNe, Nat.reduceMul, Int.reduceAdd, Int.reduceMul, Int.reduceSub, Int.reduceEq, Int.reduceNe] <;> simp
    · intro t e2
      have g1 : ¬ ((r.zip w.parts).length : Int) < (r.length : Int) := by omega
      have ht : t = false := by
        have : ((r.zip w.parts).all fun q => gIn q.1 q.2.lo q.2.hi) = false := by
          have := zip_any_at (r := r) (ps := w.parts) (by omega)
          unfold partsOut at hpo
          rw [hpo] at this
          simpa using this.symm
        rw [this] at e2
        simpa using e2.symm
      subst ht
      simp (config := { maxSteps := 400000 }) only [g1, go_sem, ↓reduceIte, reduceCtorEq, Nat.reduceEqDiff, Nat.reduceAdd, Nat.reduceLT, Nat.reduceLeDiff, Nat.reduceSub, Int.reduceToNat, Int.reduceLE, Int.reduceLT, Int.reduceNeg, Int.reduceBEq, Int.reduceBNe, Nat.reduceMul, Int.reduceAdd, Int.reduceMul, Int.reduceSub, Int.reduceEq, Int.reduceNe]
      (first | refine WF_pure (cAwake) rfl ?_ | refine WDQ_pure (cAwake) rfl ?_)
      simp (config := { maxSteps := 400000 }) only [go_sem, ↓reduceIte, reduceCtorEq, Nat.reduceEqDiff, Nat.reduceAdd, Nat.reduceLT, Nat.reduceLeDiff, Nat.reduceSub, Int.reduceToNat, Int.reduceLE, Int.reduceLT, Int.reduceNeg, Int.reduceBEq, Int.reduceBNe, Nat.reduceMul, Int.reduceAdd, Int.reduceMul, Int.reduceSub, Int.reduceEq, Int.reduceNe]
    · intro done q rest t e1 e2 hq hlt hnx
      have g1 : (done.length : Int) < (r.length : Int) := by omega
      have g2 : (done.length : Int) < (w.parts.length : Int) := by omega
      have x1 : r[done.length]? = some q.1 := by rw [← hz1, List.getElem?_map, hq]; rfl
      have x2 : w.parts[done.length]? = some q.2 := by rw [← hz2, List.getElem?_map, hq]; rfl
      rw [List.all_cons] at e2
      cases t
      · simp (config := { maxSteps := 400000 }) only [g1, g2, x1, x2, go_sem, ↓reduceIte, reduceCtorEq, Nat.reduceEqDiff, Nat.reduceAdd, Nat.reduceLT, Nat.reduceLeDiff, Nat.reduceSub, Int.reduceToNat, Int.reduceLE, Int.reduceLT, Int.reduceNeg, Int.reduceBEq, Int.reduceBNe, Nat.reduceMul, Int.reduceAdd, Int.reduceMul, Int.reduceSub, Int.reduceEq, Int.reduceNe]
        refine WQ_next e1 false (by rw [e2]; simp) ?_
        simp (config := { maxSteps := 400000 }) only [hnx, go_sem, ↓reduceIte, reduceCtorEq, Nat.reduceEqDiff, Nat.reduceAdd, Nat.reduceLT, Nat.reduceLeDiff, Nat.reduceSub, Int.reduceToNat, Int.reduceLE, Int.reduceLT, Int.reduceNeg, Int.reduceBEq, Int.reduceBNe, Nat.reduceMul, Int.reduceAdd, Int.reduceMul, Int.reduceSub, Int.reduceEq, Int.reduceNe]
      · cases ha1 : decide (q.2.lo ≤ q.1)
        · simp (config := { maxSteps := 400000 }) only [g1, g2, x1, x2, ha1, go_sem, ↓reduceIte, reduceCtorEq, Nat.reduceEqDiff, Nat.reduceAdd, Nat.reduceLT, Nat.reduceLeDiff, Nat.reduceSub, Int.reduceToNat, Int.reduceLE, Int.reduceLT, Int.reduceNeg, Int.reduceBEq, Int.reduceBNe, Nat.reduceMul, Int.reduceAdd, Int.reduceMul, Int.reduceSub, Int.reduceEq, Int.reduceNe]
          refine WQ_next e1 false (by rw [e2]; simp [gIn, ha1]) ?_
          simp (config := { maxSteps := 400000 }) only [hnx, go_sem, ↓reduceIte, reduceCtorEq, Nat.reduceEqDiff, Nat.reduceAdd, Nat.reduceLT, Nat.reduceLeDiff, Nat.reduceSub, Int.reduceToNat, Int.reduceLE, Int.reduceLT, Int.reduceNeg, Int.reduceBEq, Int.reduceBNe, Nat.reduceMul, Int.reduceAdd, Int.reduceMul, Int.reduceSub, Int.reduceEq, Int.reduceNe]
        · simp (config := { maxSteps := 400000 }) only [g1, g2, x1, x2, ha1, go_sem, ↓reduceIte, reduceCtorEq, Nat.reduceEqDiff, Nat.reduceAdd, Nat.reduceLT, Nat.reduceLeDiff, Nat.reduceSub, Int.reduceToNat, Int.reduceLE, Int.reduceLT, Int.reduceNeg, Int.reduceBEq, Int.reduceBNe, Nat.reduceMul, Int.reduceAdd, Int.reduceMul, Int.reduceSub, Int.reduceEq, Int.reduceNe]
          refine WQ_next e1 (decide (q.1 ≤ q.2.hi)) (by rw [e2]; simp [gIn, ha1]) ?_
          simp (config := { maxSteps := 400000 }) only [hnx, go_sem, ↓reduceIte, reduceCtorEq, Nat.reduceEqDiff, Nat.reduceAdd, Nat.reduceLT, Nat.reduceLeDiff, Nat.reduceSub, Int.reduceToNat, Int.reduceLE, Int.reduceLT, Int.reduceNeg, Int.reduceBEq, Int.reduceBNe, Nat.reduceMul, Int.reduceAdd, Int.reduceMul, Int.reduceSub, Int.reduceEq, Int.reduceNe]
  · have h1' : whyS l w r ≠ 1 := by simpa using h1
    have hwo := why_out h1' hmlo hslo
    have hwi := why_in (l := l) (w := w) (r := r) (a := a) (b := b)
    simp (config := { maxSteps := 400000 }) only [go_sem, ↓reduceIte, reduceCtorEq, Nat.reduceEqDiff, Nat.reduceAdd, Nat.reduceLT, Nat.reduceLeDiff, Nat.reduceSub, Int.reduceToNat, Int.reduceLE, Int.reduceLT, Int.reduceNeg, Int.reduceBEq, Int.reduceBNe, Nat.reduceMul, Int.reduceAdd, Int.reduceMul, Int.reduceSub, Int.reduceEq, Int.reduceNe]
    (first | refine WF_pure (cOutside w _ _ hw.melt hw.shrink) rfl ?_ | refine WDQ_pure (cOutside w _ _ hw.melt hw.shrink) rfl ?_)
    simp (config := { maxSteps := 400000 }) only [go_sem, ↓reduceIte, reduceCtorEq, Nat.reduceEqDiff, Nat.reduceAdd, Nat.reduceLT, Nat.reduceLeDiff, Nat.reduceSub, Int.reduceToNat, Int.reduceLE, Int.reduceLT, Int.reduceNeg, Int.reduceBEq, Int.reduceBNe, Nat.reduceMul, Int.reduceAdd, Int.reduceMul, Int.reduceSub, Int.reduceEq, Int.reduceNe]
    cases o1 : outS w (meltP (l.zip r)).lo (shrinkP (l.zip r)).lo
    rotate_left
    · rw [o1, Bool.true_or] at hwo
      simp (config := { maxSteps := 400000 }) only [o1, ← hwo, beq_self_eq_true, go_sem, ↓reduceIte, reduceCtorEq, Nat.reduceEqDiff, Nat.reduceAdd, Nat.reduceLT, Nat.reduceLeDiff, Nat.reduceSub, Int.reduceToNat, Int.reduceLE, Int.reduceLT, Int.reduceNeg, Int.reduceBEq, Int.reduceBNe, Nat.reduceMul, Int.reduceAdd, Int.reduceMul, Int.reduceSub, Int.reduceEq, Int.reduceNe]
      (first | refine WF_pure (cAwake) rfl ?_ | refine WDQ_pure (cAwake) rfl ?_)
      simp (config := { maxSteps := 400000 }) only [go_sem, ↓reduceIte, reduceCtorEq, Nat.reduceEqDiff, Nat.reduceAdd, Nat.reduceLT, Nat.reduceLeDiff, Nat.reduceSub, Int.reduceToNat, Int.reduceLE, Int.reduceLT, Int.reduceNeg, Int.reduceBEq, Int.reduceBNe, Nat.reduceMul, Int.reduceAdd, Int.reduceMul, Int.reduceSub, Int.reduceEq, Int.reduceNe]
    simp (config := { maxSteps := 400000 }) only [o1, go_sem, ↓reduceIte, reduceCtorEq, Nat.reduceEqDiff, Nat.reduceAdd, Nat.reduceLT, Nat.reduceLeDiff, Nat.reduceSub, Int.reduceToNat, Int.reduceLE, Int.reduceLT, Int.reduceNeg, Int.reduceBEq, Int.reduceBNe, Nat.reduceMul, Int.reduceAdd, Int.reduceMul, Int.reduceSub, Int.reduceEq, Int.reduceNe]
    (first | refine WF_pure (cOutside w _ _ hw.melt hw.shrink) rfl ?_ | refine WDQ_pure (cOutside w _ _ hw.melt hw.shrink) rfl ?_)
    simp (config := { maxSteps := 400000 }) only [go_sem, ↓reduceIte, reduceCtorEq, Nat.reduceEqDiff, Nat.reduceAdd, Nat.reduceLT, Nat.reduceLeDiff, Nat.reduceSub, Int.reduceToNat, Int.reduceLE, Int.reduceLT, Int.reduceNeg, Int.reduceBEq, Int.reduceBNe, Nat.reduceMul, Int.reduceAdd, Int.reduceMul, Int.reduceSub, Int.reduceEq, Int.reduceNe]
    rw [o1, Bool.false_or] at hwo
    cases o2 : outS w (meltP (l.zip r)).hi (shrinkP (l.zip r)).hi
    rotate_left
    · rw [o2] at hwo
      simp (config := { maxSteps := 400000 }) only [o2, ← hwo, beq_self_eq_true, go_sem, ↓reduceIte, reduceCtorEq, Nat.reduceEqDiff, Nat.reduceAdd, Nat.reduceLT, Nat.reduceLeDiff, Nat.reduceSub, Int.reduceToNat, Int.reduceLE, Int.reduceLT, Int.reduceNeg, Int.reduceBEq, Int.reduceBNe, Nat.reduceMul, Int.reduceAdd, Int.reduceMul, Int.reduceSub, Int.reduceEq, Int.reduceNe]
      (first | refine WF_pure (cAwake) rfl ?_ | refine WDQ_pure (cAwake) rfl ?_)
      simp (config := { maxSteps := 400000 }) only [go_sem, ↓reduceIte, reduceCtorEq, Nat.reduceEqDiff, Nat.reduceAdd, Nat.reduceLT, Nat.reduceLeDiff, Nat.reduceSub, Int.reduceToNat, Int.reduceLE, Int.reduceLT, Int.reduceNeg, Int.reduceBEq, Int.reduceBNe, Nat.reduceMul, Int.reduceAdd, Int.reduceMul, Int.reduceSub, Int.reduceEq, Int.reduceNe]
    rw [o2] at hwo
    have h0 : whyS l w r = 0 := by simpa using hwo.symm
    simp (config := { maxSteps := 400000 }) only [o2, ← hwo, beq_self_eq_true, go_sem, ↓reduceIte, reduceCtorEq, Nat.reduceEqDiff, Nat.reduceAdd, Nat.reduceLT, Nat.reduceLeDiff, Nat.reduceSub, Int.reduceToNat, Int.reduceLE, Int.reduceLT, Int.reduceNeg, Int.reduceBEq, Int.reduceBNe, Nat.reduceMul, Int.reduceAdd, Int.reduceMul, Int.reduceSub, Int.reduceEq, Int.reduceNe]
    (first | refine WF_pure (cOutside w _ _ hw.melt hw.shrink) rfl ?_ | refine WDQ_pure (cOutside w _ _ hw.melt hw.shrink) rfl ?_)
    simp (config := { maxSteps := 400000 }) only [hwi h0 ha hb, go_sem, ↓reduceIte, reduceCtorEq, Nat.reduceEqDiff, Nat.reduceAdd, Nat.reduceLT, Nat.reduceLeDiff, Nat.reduceSub, Int.reduceToNat, Int.reduceLE, Int.reduceLT, Int.reduceNeg, Int.reduceBEq, Int.reduceBNe, Nat.reduceMul, Int.reduceAdd, Int.reduceMul, Int.reduceSub, Int.reduceEq, Int.reduceNe]
    (first | refine WF_pure (cAwake) rfl ?_ | refine WDQ_pure (cAwake) rfl ?_)
    simp (config := { maxSteps := 400000 }) only [go_sem, ↓reduceIte, reduceCtorEq, Nat.reduceEqDiff, Nat.reduceAdd, Nat.reduceLT, Nat.reduceLeDiff, Nat.reduceSub, Int.reduceToNat, Int.reduceLE, Int.reduceLT, Int.reduceNeg, Int.reduceBEq, Int.reduceBNe, Nat.reduceMul, Int.reduceAdd, Int.reduceMul, Int.reduceSub, Int.reduceEq, Int.reduceNe]

/-! weighed -/
theorem weighGo_at (g : Int) (hg : 0 ≤ g) : ∀ (r : List Int) (b : Int), 0 ≤ b → (∀ n, n ∈ r → 0 ≤ n) → (weighGo g b r).sum = g * (b + r.sum) / 20 - g * b / 20 ∧
    ∀ (i : Nat) (a n : Int), (weighGo g b r)[i]? = some a → r[i]? = some n → 0 ≤ a ∧ -20 < 20 * a - g * n ∧ 20 * a - g * n < 20
  | [], b, _, _ => ⟨by simp [weighGo], by simp [weighGo]⟩
  | m :: r, b, hb, hr => by
    have hm := hr m (by simp)
    obtain ⟨h1, h2⟩ := weighGo_at g hg r (b + m) (by omega) fun n hn => hr n (by simp [hn])
    have e : b + (m :: r).sum = b + m + r.sum := by simp; omega
    refine ⟨?_, fun i a n ha hn => ?_⟩
    · rw [weighGo, List.sum_cons, h1, e]; omega
    · cases i with
      | zero =>
        rw [weighGo] at ha
        cases ha; cases hn
        have e1 : g * (b + m) = g * b + g * m := Int.mul_add _ _ _
        have e2 : 0 ≤ g * m := Int.mul_nonneg hg hm
        omega
      | succ i =>
        rw [weighGo] at ha
        exact h2 i a n (by simpa using ha) (by simpa using hn)
set_option maxHeartbeats 2000000 in
theorem lBlendWeighed (l : List BdWax) (x : List Int) (g : Int) (hx : U16s x) (hg : 0 ≤ g ∧ g ≤ 4294967295) : PCall Try.prog 11 [bdWaxes l, u16s x, .int .u32 g] (.bool true) := by
  refine pcall_of_wp draws (fn := Try.f11) (n := 101) (rs := [.tmp 6]) (by kernel_rfl) rfl rfl rfl ok11 (Nat.le_of_ble_eq_true rfl) ?_
  have hgm : g.tmod 1000001 = g % 1000001 := Int.tmod_eq_emod_of_nonneg hg.1
  have g1 := Int.emod_nonneg g (show (1000001 : Int) ≠ 0 by omega)
  have g2 := Int.emod_lt_of_pos g (show (0 : Int) < 1000001 by omega)
  have hgw : IntKind.i64.wrap (g % 1000001) = g % 1000001 := wrap_in (by omega) (by omega)
  simp (config := { maxSteps := 400000 }) only [hgm, hgw, go_sem, ↓reduceIte, reduceCtorEq, Nat.reduceEqDiff, Nat.reduceAdd, Nat.reduceLT, Nat.reduceLeDiff, Nat.reduceSub, Int.reduceToNat, Int.reduceLE, Int.reduceLT, Int.reduceNeg, Int.reduceBEq, Int.reduceBNe, Nat.reduceMul, Int.reduceAdd, Int.reduceMul, Int.reduceSub, Int.reduceEq, Int.reduceNe]
  generalize g % 1000001 = n at g1 g2
  (first | refine WF_pure (cValid l) rfl ?_ | refine WDQ_pure (cValid l) rfl ?_)
  simp (config := { maxSteps := 400000 }) only [go_sem, ↓reduceIte, reduceCtorEq, Nat.reduceEqDiff, Nat.reduceAdd, Nat.reduceLT, Nat.reduceLeDiff, Nat.reduceSub, Int.reduceToNat, Int.reduceLE, Int.reduceLT, Int.reduceNeg, Int.reduceBEq, Int.reduceBNe, Nat.reduceMul, Int.reduceAdd, Int.reduceMul, Int.reduceSub, Int.reduceEq, Int.reduceNe]
  cases he : (bdE l == 0)
  · have he' : ¬ bdE l = 0 := by simpa using he
    simp (config := { maxSteps := 400000 }) only [go_sem, ↓reduceIte, reduceCtorEq, Nat.reduceEqDiff, Nat.reduceAdd, Nat.reduceLT, Nat.reduceLeDiff, Nat.reduceSub, Int.reduceToNat, Int.reduceLE, Int.reduceLT, Int.reduceNeg, Int.reduceBEq, Int.reduceBNe, Nat.reduceMul, Int.reduceAdd, Int.reduceMul, Int.reduceSub, Int.reduceEq, Int.reduceNe]
    refine WF_pure ((cWeigh l [] n false).argless (args' := [bdWaxes l, .nilslice, .int .i64 n]) ⟨.inl rfl, .inr ⟨rfl, 1, rfl⟩, .inl rfl, trivial⟩) rfl ?_
    have hne : (bdE l != 0) = true := by simp [bne, he]
    have hv : bdWeigh l [] n = ([], bdE l) := by
      have : bdAsked l [] = bdE l := by rw [bdAsked, if_neg he']
      rw [bdWeigh, this, if_neg he']
    simp (config := { maxSteps := 400000 }) only [weighPV, hv, hne, go_sem, ↓reduceIte, reduceCtorEq, Nat.reduceEqDiff, Nat.reduceAdd, Nat.reduceLT, Nat.reduceLeDiff, Nat.reduceSub, Int.reduceToNat, Int.reduceLE, Int.reduceLT, Int.reduceNeg, Int.reduceBEq, Int.reduceBNe, Nat.reduceMul, Int.reduceAdd, Int.reduceMul, Int.reduceSub, Int.reduceEq, Int.reduceNe]
    (first | refine WF_pure (cAwake) rfl ?_ | refine WDQ_pure (cAwake) rfl ?_)
    simp (config := { maxSteps := 400000 }) only [go_sem, ↓reduceIte, reduceCtorEq, Nat.reduceEqDiff, Nat.reduceAdd, Nat.reduceLT, Nat.reduceLeDiff, Nat.reduceSub, Int.reduceToNat, Int.reduceLE, Int.reduceLT, Int.reduceNeg, Int.reduceBEq, Int.reduceBNe, Nat.reduceMul, Int.reduceAdd, Int.reduceMul, Int.reduceSub, Int.reduceEq, Int.reduceNe]
  have he' : bdE l = 0 := by simpa using he
  have hl := bdWaxesOk_of he'
  have hl5 := hl.len
  have hr := parted_ok hx.1 hl.len.1
  simp (config := { maxSteps := 400000 }) only [go_sem, ↓reduceIte, reduceCtorEq, Nat.reduceEqDiff, Nat.reduceAdd, Nat.reduceLT, Nat.reduceLeDiff, Nat.reduceSub, Int.reduceToNat, Int.reduceLE, Int.reduceLT, Int.reduceNeg, Int.reduceBEq, Int.reduceBNe, Nat.reduceMul, Int.reduceAdd, Int.reduceMul, Int.reduceSub, Int.reduceEq, Int.reduceNe]
  (first | refine WF_pure (cParted l.length x false hl.len hx.1 hx.2) rfl ?_ | refine WDQ_pure (cParted l.length x false hl.len hx.1 hx.2) rfl ?_)
  simp (config := { maxSteps := 400000 }) only [go_sem, ↓reduceIte, reduceCtorEq, Nat.reduceEqDiff, Nat.reduceAdd, Nat.reduceLT, Nat.reduceLeDiff, Nat.reduceSub, Int.reduceToNat, Int.reduceLE, Int.reduceLT, Int.reduceNeg, Int.reduceBEq, Int.reduceBNe, Nat.reduceMul, Int.reduceAdd, Int.reduceMul, Int.reduceSub, Int.reduceEq, Int.reduceNe]
  generalize parted l.length x = r at hr
  have hgi : gIn n 0 1000000 = true := by simp [gIn]; omega
  have hv : bdWeigh l r n = (weighGo n 0 r, 0) := by rw [bdWeigh, if_pos (asked_ok he' hr), if_pos hgi]
  obtain ⟨hsum, hat⟩ := weighGo_at n g1 r 0 (by omega) fun m hm => (hr.rng m hm).1
  have hwl := weighGo_len n r 0
  have hrl := hr.len
  rw [hr.sum] at hsum
  have hsum' : (weighGo n 0 r).sum = n := by rw [hsum]; omega
  (first | refine WF_pure (cWeigh l r n false) rfl ?_ | refine WDQ_pure (cWeigh l r n false) rfl ?_)
  generalize weighGo n 0 r = all at hv hat hwl hsum'
  have hne : (((all.length : Nat) : Int) != (l.length : Int)) = false := by simp; omega
  simp (config := { maxSteps := 400000 }) only [weighPV, hv, hne, go_sem, ↓reduceIte, reduceCtorEq, Nat.reduceEqDiff, Nat.reduceAdd, Nat.reduceLT, Nat.reduceLeDiff, Nat.reduceSub, Int.reduceToNat, Int.reduceLE, Int.reduceLT, Int.reduceNeg, Int.reduceBEq, Int.reduceBNe, Nat.reduceMul, Int.reduceAdd, Int.reduceMul, Int.reduceSub, Int.reduceEq, Int.reduceNe]
  refine W_rangeH [7, 10, 11] all (by omega) (τ := Int) (fun done rest s => all.sum = s + rest.sum ∧ 0 ≤ s ∧ s ≤ 2000000 * (done.length : Int)) (fun done s => [(14, .p (.int .i64 done.length)), (13, .p (.int .i64 s))]) 0 ⟨by simp, by simp, by simp⟩ ?_ ?_ ?_
  · simp (config := { maxSteps := 400000 }) only [go_sem, ↓reduceIte, reduceCtorEq, Nat.reduceEqDiff, Nat.reduceAdd, Nat.reduceLT, Nat.reduceLeDiff, Nat.reduceSub, Int.reduceToNat, Int.reduceLE, Int.reduceLT, Int.reduceNeg, Int.reduceBEq, Int.reduceBNe, Nat.reduceMul, Int.reduceAdd, Int.reduceMul, Int.reduceSub, Int.reduceEq, Int.reduceNe] <;> simp
  · rintro s ⟨e2, _⟩
    have : (s == n) = true := by simp at e2 ⊢; omega
    simp (config := { maxSteps := 400000 }) only [this, go_sem, ↓reduceIte, reduceCtorEq, Nat.reduceEqDiff, Nat.reduceAdd, Nat.reduceLT, Nat.reduceLeDiff, Nat.reduceSub, Int.reduceToNat, Int.reduceLE, Int.reduceLT, Int.reduceNeg, Int.reduceBEq, Int.reduceBNe, Nat.reduceMul, Int.reduceAdd, Int.reduceMul, Int.reduceSub, Int.reduceEq, Int.reduceNe]
    (first | refine WF_pure (cAwake) rfl ?_ | refine WDQ_pure (cAwake) rfl ?_)
    simp (config := { maxSteps := 400000 }) only [go_sem, ↓reduceIte, reduceCtorEq, Nat.reduceEqDiff, Nat.reduceAdd, Nat.reduceLT, Nat.reduceLeDiff, Nat.reduceSub, Int.reduceToNat, Int.reduceLE, Int.reduceLT, Int.reduceNeg, Int.reduceBEq, Int.reduceBNe, Nat.reduceMul, Int.reduceAdd, Int.reduceMul, Int.reduceSub, Int.reduceEq, Int.reduceNe]
  · rintro done a rest s e1 ⟨e2, e3, e4⟩ ha hlt hnx
    have hdl : done.length < r.length := by omega
    obtain ⟨m, hm⟩ : ∃ m, r[done.length]? = some m := ⟨_, List.getElem?_eq_getElem hdl⟩
    have hmr := hr.rng m (List.mem_of_getElem? hm)
    obtain ⟨h1, h2, h3⟩ := hat _ _ _ ha hm
    have hnm := mul_bd g1 (show n ≤ 1000000 by omega) hmr.1 hmr.2
    have w1 : IntKind.i64.wrap (20 * a) = 20 * a := wrap_in (by omega) (by omega)
    have w2 : IntKind.i64.wrap (n * m) = n * m := wrap_in (by omega) (by omega)
    have w3 : IntKind.i64.wrap (20 * a - n * m) = 20 * a - n * m := wrap_in (by omega) (by omega)
    have w4 : IntKind.i64.wrap (s + a) = s + a := wrap_in (by omega) (by omega)
    have b1 : decide (a < 0) = false := by simp; omega
    have b2 : decide ((20 : Int) ≤ 20 * a - n * m) = false := by simp; omega
    have b3 : decide (20 * a - n * m ≤ (-20 : Int)) = false := by simp; omega
    have hlr : (done.length : Int) < (r.length : Int) := by omega
    simp (config := { maxSteps := 400000 }) only [hlt, ha, hlr, hm, w1, w2, w3, b1, b2, b3, w4, go_sem, ↓reduceIte, reduceCtorEq, Nat.reduceEqDiff, Nat.reduceAdd, Nat.reduceLT, Nat.reduceLeDiff, Nat.reduceSub, Int.reduceToNat, Int.reduceLE, Int.reduceLT, Int.reduceNeg, Int.reduceBEq, Int.reduceBNe, Nat.reduceMul, Int.reduceAdd, Int.reduceMul, Int.reduceSub, Int.reduceEq, Int.reduceNe]
    refine WQ_next e1 (s + a) ⟨by rw [e2]; simp; omega, by omega, by simp; omega⟩ ?_
    simp (config := { maxSteps := 400000 }) only [hnx, go_sem, ↓reduceIte, reduceCtorEq, Nat.reduceEqDiff, Nat.reduceAdd, Nat.reduceLT, Nat.reduceLeDiff, Nat.reduceSub, Int.reduceToNat, Int.reduceLE, Int.reduceLT, Int.reduceNeg, Int.reduceBEq, Int.reduceBNe, Nat.reduceMul, Int.reduceAdd, Int.reduceMul, Int.reduceSub, Int.reduceEq, Int.reduceNe]
end Abs
end Go.Proofs.Ythekmbikolpmlaa
