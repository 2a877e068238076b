/-
  CONTRACTS: Check of blend's reference; what a wax raises, in the program and in the reference.
-/
import Derived.Test.YthekmbikolpmlaaBdChk
namespace Go.Proofs.Ythekmbikolpmlaa
namespace Abs
set_option linter.unusedSimpArgs false
set_option maxRecDepth 4000

/-! Check of the reference -/
theorem gSpan_inS (s : Span) (a b : Int) : gSpan s.lo s.hi a b = if inS s a b = true then (if turnedS s = true then 2 else 0) else 7 := by
  unfold gSpan inS turnedS
  cases gIn s.lo a b <;> cases gIn s.hi a b <;> simp
def spansErr (m s : Span) : Int := if (inS m 0 2000 && inS s 0 1000) = true then (if (turnedS m || turnedS s) = true then 2 else 0) else 7
theorem cRefBdSpans (m s : Span) : PCall Try.prog 55 [m.pv, s.pv] (.int .i64 (spansErr m s)) := by
  refine pcall_of_wp draws (fn := Try.f55) (n := 21) (rs := [.tmp 4]) (by kernel_rfl) rfl rfl rfl ok55 (Nat.le_of_ble_eq_true rfl) ?_
  simp (config := { maxSteps := 400000 }) only [go_sem, ↓reduceIte, reduceCtorEq, Nat.reduceEqDiff, Nat.reduceAdd, Nat.reduceLT, Nat.reduceLeDiff, Nat.reduceSub, Int.reduceToNat, Int.reduceLE, Int.reduceLT, Int.reduceNeg, Int.reduceBEq, Int.reduceBNe, Nat.reduceMul, Int.reduceAdd, Int.reduceMul, Int.reduceSub, Int.reduceEq, Int.reduceNe]
  refine WDQ_pure (cSpan _ _ _ _) rfl ?_
  simp (config := { maxSteps := 400000 }) only [go_sem, ↓reduceIte, reduceCtorEq, Nat.reduceEqDiff, Nat.reduceAdd, Nat.reduceLT, Nat.reduceLeDiff, Nat.reduceSub, Int.reduceToNat, Int.reduceLE, Int.reduceLT, Int.reduceNeg, Int.reduceBEq, Int.reduceBNe, Nat.reduceMul, Int.reduceAdd, Int.reduceMul, Int.reduceSub, Int.reduceEq, Int.reduceNe]
  refine WDQ_pure (cSpan _ _ _ _) rfl ?_
  simp (config := { maxSteps := 400000 }) only [gSpan_inS, go_sem, ↓reduceIte, reduceCtorEq, Nat.reduceEqDiff, Nat.reduceAdd, Nat.reduceLT, Nat.reduceLeDiff, Nat.reduceSub, Int.reduceToNat, Int.reduceLE, Int.reduceLT, Int.reduceNeg, Int.reduceBEq, Int.reduceBNe, Nat.reduceMul, Int.reduceAdd, Int.reduceMul, Int.reduceSub, Int.reduceEq, Int.reduceNe]
  unfold spansErr
  cases inS m 0 2000 <;> cases inS s 0 1000 <;> cases turnedS m <;> cases turnedS s <;> simp (config := { maxSteps := 400000 }) only [go_sem, ↓reduceIte, reduceCtorEq, Nat.reduceEqDiff, Nat.reduceAdd, Nat.reduceLT, Nat.reduceLeDiff, Nat.reduceSub, Int.reduceToNat, Int.reduceLE, Int.reduceLT, Int.reduceNeg, Int.reduceBEq, Int.reduceBNe, Nat.reduceMul, Int.reduceAdd, Int.reduceMul, Int.reduceSub, Int.reduceEq, Int.reduceNe]
theorem cRefNamedI (s : ByteArray) (l : List ByteArray) (b : Bool) (xs : List PV) (hx : xs = l.map .str) (hl : l.length < 1000000000) : PCall Try.prog 54 [.str s, .slice 1 xs b] (.int .i64 (namedErr l s)) := by
  subst hx; exact cRefNamed s l b hl
set_option maxHeartbeats 1000000 in
theorem cRefBdCheck (l : List BdWax) : PCall Try.prog 16 [bdWaxes l] (triple (bdCheck l)) := by
  refine pcall_of_wp draws (fn := Try.f16) (n := 69) (rs := [.tmp 2, .tmp 3, .tmp 4]) (by kernel_rfl) rfl rfl rfl ok16 (Nat.le_of_ble_eq_true rfl) ?_
  simp (config := { maxSteps := 400000 }) only [go_sem, ↓reduceIte, reduceCtorEq, Nat.reduceEqDiff, Nat.reduceAdd, Nat.reduceLT, Nat.reduceLeDiff, Nat.reduceSub, Int.reduceToNat, Int.reduceLE, Int.reduceLT, Int.reduceNeg, Int.reduceBEq, Int.reduceBNe, Nat.reduceMul, Int.reduceAdd, Int.reduceMul, Int.reduceSub, Int.reduceEq, Int.reduceNe]
  refine WF_pure (cIn1 _ _ _) rfl ?_
  simp (config := { maxSteps := 400000 }) only [go_sem, ↓reduceIte, reduceCtorEq, Nat.reduceEqDiff, Nat.reduceAdd, Nat.reduceLT, Nat.reduceLeDiff, Nat.reduceSub, Int.reduceToNat, Int.reduceLE, Int.reduceLT, Int.reduceNeg, Int.reduceBEq, Int.reduceBNe, Nat.reduceMul, Int.reduceAdd, Int.reduceMul, Int.reduceSub, Int.reduceEq, Int.reduceNe]
  cases h1 : gIn l.length 1 5
  · simp (config := { maxSteps := 400000 }) only [triple, bdCheck, h1, go_sem, ↓reduceIte, reduceCtorEq, Nat.reduceEqDiff, Nat.reduceAdd, Nat.reduceLT, Nat.reduceLeDiff, Nat.reduceSub, Int.reduceToNat, Int.reduceLE, Int.reduceLT, Int.reduceNeg, Int.reduceBEq, Int.reduceBNe, Nat.reduceMul, Int.reduceAdd, Int.reduceMul, Int.reduceSub, Int.reduceEq, Int.reduceNe]
  have hl : l.length ≤ 5 := by simp [gIn] at h1; omega
  have hspec : bdCheck l = bdTail (firstErr bdWaxErr (·.name) l []) := by simp [bdCheck, h1]
  rw [hspec]
  simp (config := { maxSteps := 400000 }) only [go_sem, ↓reduceIte, reduceCtorEq, Nat.reduceEqDiff, Nat.reduceAdd, Nat.reduceLT, Nat.reduceLeDiff, Nat.reduceSub, Int.reduceToNat, Int.reduceLE, Int.reduceLT, Int.reduceNeg, Int.reduceBEq, Int.reduceBNe, Nat.reduceMul, Int.reduceAdd, Int.reduceMul, Int.reduceSub, Int.reduceEq, Int.reduceNe]
  refine W_loop_nil 5 1 (by simp (config := { maxSteps := 400000 }) only [go_sem, ↓reduceIte, reduceCtorEq, Nat.reduceEqDiff, Nat.reduceAdd, Nat.reduceLT, Nat.reduceLeDiff, Nat.reduceSub, Int.reduceToNat, Int.reduceLE, Int.reduceLT, Int.reduceNeg, Int.reduceBEq, Int.reduceBNe, Nat.reduceMul, Int.reduceAdd, Int.reduceMul, Int.reduceSub, Int.reduceEq, Int.reduceNe]) ?_
  simp (config := { maxSteps := 400000 }) only [go_sem, ↓reduceIte, reduceCtorEq, Nat.reduceEqDiff, Nat.reduceAdd, Nat.reduceLT, Nat.reduceLeDiff, Nat.reduceSub, Int.reduceToNat, Int.reduceLE, Int.reduceLT, Int.reduceNeg, Int.reduceBEq, Int.reduceBNe, Nat.reduceMul, Int.reduceAdd, Int.reduceMul, Int.reduceSub, Int.reduceEq, Int.reduceNe]
  refine W_rangeA [0] l (by omega) (τ := Unit) (fun done rest _ => firstErr bdWaxErr (·.name) l [] = firstErr bdWaxErr (·.name) rest (done.map (·.name)))
    (fun done _ => [(5, .slice 0 done.length 0 done.length), (6, .p (.int .i64 done.length))]) (fun done _ => [.row 1 (done.map fun x => .p (.str x.name))]) () rfl ?_ ?_ ?_
  · simp (config := { maxSteps := 400000 }) only [go_sem, ↓reduceIte, reduceCtorEq, Nat.reduceEqDiff, Nat.reduceAdd, Nat.reduceLT, Nat.reduceLeDiff, Nat.reduceSub, Int.reduceToNat, Int.reduceLE, Int.reduceLT, Int.reduceNeg, Int.reduceBEq, Int.reduceBNe, Nat.reduceMul, Int.reduceAdd, Int.reduceMul, Int.reduceSub, Int.reduceEq, Int.reduceNe] <;> simp
  · intro _ e2
    simp (config := { maxSteps := 400000 }) only [go_sem, ↓reduceIte, reduceCtorEq, Nat.reduceEqDiff, Nat.reduceAdd, Nat.reduceLT, Nat.reduceLeDiff, Nat.reduceSub, Int.reduceToNat, Int.reduceLE, Int.reduceLT, Int.reduceNeg, Int.reduceBEq, Int.reduceBNe, Nat.reduceMul, Int.reduceAdd, Int.reduceMul, Int.reduceSub, Int.reduceEq, Int.reduceNe]
    rw [e2]; rfl
  · intro done x r _ e1 e2 hx hlt hnx
    have hrm : done.length + 1 ≤ room := by simp [room]; omega
    have hE : firstErr bdWaxErr (·.name) l [] = if bdWaxErr (done.map (·.name)) x = 0 then firstErr bdWaxErr (·.name) r ((done ++ [x]).map (·.name)) else some ((done.length : Int), bdWaxErr (done.map (·.name)) x) := by
      rw [e2, firstErr]; simp
    have fin : ∀ e, bdWaxErr (done.map (·.name)) x = e → e ≠ 0 → bdTail (firstErr bdWaxErr (·.name) l []) = (2, (done.length : Int), e) := by
      intro e he hne
      rw [hE, he, if_neg hne]; rfl
    simp (config := { maxSteps := 400000 }) only [hlt, hx, go_sem, ↓reduceIte, reduceCtorEq, Nat.reduceEqDiff, Nat.reduceAdd, Nat.reduceLT, Nat.reduceLeDiff, Nat.reduceSub, Int.reduceToNat, Int.reduceLE, Int.reduceLT, Int.reduceNeg, Int.reduceBEq, Int.reduceBNe, Nat.reduceMul, Int.reduceAdd, Int.reduceMul, Int.reduceSub, Int.reduceEq, Int.reduceNe]
    refine WF_frz (cRefNamedI x.name (done.map (·.name)) false (done.map fun x => .str x.name) (by simp) (by simp; omega)) ?_ (.int _ _) ?_
    · simp (config := { maxSteps := 400000 }) only [go_sem, ↓reduceIte, reduceCtorEq, Nat.reduceEqDiff, Nat.reduceAdd, Nat.reduceLT, Nat.reduceLeDiff, Nat.reduceSub, Int.reduceToNat, Int.reduceLE, Int.reduceLT, Int.reduceNeg, Int.reduceBEq, Int.reduceBNe, Nat.reduceMul, Int.reduceAdd, Int.reduceMul, Int.reduceSub, Int.reduceEq, Int.reduceNe]
    simp (config := { maxSteps := 400000 }) only [hrm, hlt, hx, go_sem, ↓reduceIte, reduceCtorEq, Nat.reduceEqDiff, Nat.reduceAdd, Nat.reduceLT, Nat.reduceLeDiff, Nat.reduceSub, Int.reduceToNat, Int.reduceLE, Int.reduceLT, Int.reduceNeg, Int.reduceBEq, Int.reduceBNe, Nat.reduceMul, Int.reduceAdd, Int.reduceMul, Int.reduceSub, Int.reduceEq, Int.reduceNe]
    cases h5 : (namedErr (done.map (·.name)) x.name == 0)
    · have h5' : namedErr (done.map (·.name)) x.name ≠ 0 := by simpa using h5
      have h5n : (namedErr (done.map (·.name)) x.name != 0) = true := by simp [bne, h5]
      simp (config := { maxSteps := 400000 }) only [h5, h5n, triple, fin _ (by rw [bdWaxErr, if_neg h5']) h5', go_sem, ↓reduceIte, reduceCtorEq, Nat.reduceEqDiff, Nat.reduceAdd, Nat.reduceLT, Nat.reduceLeDiff, Nat.reduceSub, Int.reduceToNat, Int.reduceLE, Int.reduceLT, Int.reduceNeg, Int.reduceBEq, Int.reduceBNe, Nat.reduceMul, Int.reduceAdd, Int.reduceMul, Int.reduceSub, Int.reduceEq, Int.reduceNe]
    have h5' : namedErr (done.map (·.name)) x.name = 0 := by simpa using h5
    simp (config := { maxSteps := 400000 }) only [hx, hlt, go_sem, ↓reduceIte, reduceCtorEq, Nat.reduceEqDiff, Nat.reduceAdd, Nat.reduceLT, Nat.reduceLeDiff, Nat.reduceSub, Int.reduceToNat, Int.reduceLE, Int.reduceLT, Int.reduceNeg, Int.reduceBEq, Int.reduceBNe, Nat.reduceMul, Int.reduceAdd, Int.reduceMul, Int.reduceSub, Int.reduceEq, Int.reduceNe]
    refine WF_pure (cIn1 _ _ _) rfl ?_
    simp (config := { maxSteps := 400000 }) only [go_sem, ↓reduceIte, reduceCtorEq, Nat.reduceEqDiff, Nat.reduceAdd, Nat.reduceLT, Nat.reduceLeDiff, Nat.reduceSub, Int.reduceToNat, Int.reduceLE, Int.reduceLT, Int.reduceNeg, Int.reduceBEq, Int.reduceBNe, Nat.reduceMul, Int.reduceAdd, Int.reduceMul, Int.reduceSub, Int.reduceEq, Int.reduceNe]
    cases h6 : gIn x.price 0 100000
    · simp (config := { maxSteps := 400000 }) only [triple, fin 7 (by simp [bdWaxErr, h5', h6]) (by decide), go_sem, ↓reduceIte, reduceCtorEq, Nat.reduceEqDiff, Nat.reduceAdd, Nat.reduceLT, Nat.reduceLeDiff, Nat.reduceSub, Int.reduceToNat, Int.reduceLE, Int.reduceLT, Int.reduceNeg, Int.reduceBEq, Int.reduceBNe, Nat.reduceMul, Int.reduceAdd, Int.reduceMul, Int.reduceSub, Int.reduceEq, Int.reduceNe]
    simp (config := { maxSteps := 400000 }) only [h5, hx, hlt, go_sem, ↓reduceIte, reduceCtorEq, Nat.reduceEqDiff, Nat.reduceAdd, Nat.reduceLT, Nat.reduceLeDiff, Nat.reduceSub, Int.reduceToNat, Int.reduceLE, Int.reduceLT, Int.reduceNeg, Int.reduceBEq, Int.reduceBNe, Nat.reduceMul, Int.reduceAdd, Int.reduceMul, Int.reduceSub, Int.reduceEq, Int.reduceNe]
    refine WDQ_pure (cRefBdSpans x.melt x.shrink) rfl ?_
    simp (config := { maxSteps := 400000 }) only [go_sem, ↓reduceIte, reduceCtorEq, Nat.reduceEqDiff, Nat.reduceAdd, Nat.reduceLT, Nat.reduceLeDiff, Nat.reduceSub, Int.reduceToNat, Int.reduceLE, Int.reduceLT, Int.reduceNeg, Int.reduceBEq, Int.reduceBNe, Nat.reduceMul, Int.reduceAdd, Int.reduceMul, Int.reduceSub, Int.reduceEq, Int.reduceNe]
    have hw : bdWaxErr (done.map (·.name)) x = if spansErr x.melt x.shrink = 0 then curveErr x.curve else spansErr x.melt x.shrink := by
      unfold bdWaxErr spansErr
      rw [if_pos h5', h6]
      cases (inS x.melt 0 2000 && inS x.shrink 0 1000) <;> cases (turnedS x.melt || turnedS x.shrink) <;> rfl
    cases h7 : (spansErr x.melt x.shrink == 0)
    · have h7' : spansErr x.melt x.shrink ≠ 0 := by simpa using h7
      have h7n : (spansErr x.melt x.shrink != 0) = true := by simp [bne, h7]
      simp (config := { maxSteps := 400000 }) only [h7n, triple, fin _ (by rw [hw, if_neg h7']) h7', go_sem, ↓reduceIte, reduceCtorEq, Nat.reduceEqDiff, Nat.reduceAdd, Nat.reduceLT, Nat.reduceLeDiff, Nat.reduceSub, Int.reduceToNat, Int.reduceLE, Int.reduceLT, Int.reduceNeg, Int.reduceBEq, Int.reduceBNe, Nat.reduceMul, Int.reduceAdd, Int.reduceMul, Int.reduceSub, Int.reduceEq, Int.reduceNe]
    have h7' : spansErr x.melt x.shrink = 0 := by simpa using h7
    rw [if_pos h7'] at hw
    simp (config := { maxSteps := 400000 }) only [hx, hlt, go_sem, ↓reduceIte, reduceCtorEq, Nat.reduceEqDiff, Nat.reduceAdd, Nat.reduceLT, Nat.reduceLeDiff, Nat.reduceSub, Int.reduceToNat, Int.reduceLE, Int.reduceLT, Int.reduceNeg, Int.reduceBEq, Int.reduceBNe, Nat.reduceMul, Int.reduceAdd, Int.reduceMul, Int.reduceSub, Int.reduceEq, Int.reduceNe]
    refine WF_pure (cRefCurve x.curve false) rfl ?_
    simp (config := { maxSteps := 400000 }) only [go_sem, ↓reduceIte, reduceCtorEq, Nat.reduceEqDiff, Nat.reduceAdd, Nat.reduceLT, Nat.reduceLeDiff, Nat.reduceSub, Int.reduceToNat, Int.reduceLE, Int.reduceLT, Int.reduceNeg, Int.reduceBEq, Int.reduceBNe, Nat.reduceMul, Int.reduceAdd, Int.reduceMul, Int.reduceSub, Int.reduceEq, Int.reduceNe]
    cases h9 : (curveErr x.curve != 0)
    · have h9' : curveErr x.curve = 0 := by simpa using h9
      simp (config := { maxSteps := 400000 }) only [go_sem, ↓reduceIte, reduceCtorEq, Nat.reduceEqDiff, Nat.reduceAdd, Nat.reduceLT, Nat.reduceLeDiff, Nat.reduceSub, Int.reduceToNat, Int.reduceLE, Int.reduceLT, Int.reduceNeg, Int.reduceBEq, Int.reduceBNe, Nat.reduceMul, Int.reduceAdd, Int.reduceMul, Int.reduceSub, Int.reduceEq, Int.reduceNe]
      refine WQ_next e1 () (by rw [hE, if_pos (hw.trans h9')]) ?_
      simp (config := { maxSteps := 400000 }) only [hnx, List.length_append, List.map_append, go_sem, ↓reduceIte, reduceCtorEq, Nat.reduceEqDiff, Nat.reduceAdd, Nat.reduceLT, Nat.reduceLeDiff, Nat.reduceSub, Int.reduceToNat, Int.reduceLE, Int.reduceLT, Int.reduceNeg, Int.reduceBEq, Int.reduceBNe, Nat.reduceMul, Int.reduceAdd, Int.reduceMul, Int.reduceSub, Int.reduceEq, Int.reduceNe]
    · simp (config := { maxSteps := 400000 }) only [triple, fin _ hw (by simpa using h9), go_sem, ↓reduceIte, reduceCtorEq, Nat.reduceEqDiff, Nat.reduceAdd, Nat.reduceLT, Nat.reduceLeDiff, Nat.reduceSub, Int.reduceToNat, Int.reduceLE, Int.reduceLT, Int.reduceNeg, Int.reduceBEq, Int.reduceBNe, Nat.reduceMul, Int.reduceAdd, Int.reduceMul, Int.reduceSub, Int.reduceEq, Int.reduceNe]

/-! curves -/
structure CurveOk (c : List BdPoint) : Prop where
  len : c.length ≤ 6
  pt : ∀ p, p ∈ c → 0 ≤ p.parts ∧ p.parts ≤ 20 ∧ -300 ≤ p.add ∧ p.add ≤ 300
  up : c.Pairwise fun a b => a.parts < b.parts
theorem ptErr_ok : ∀ (c : List BdPoint) (last : Int), ptErr last c = 0 → (∀ p, p ∈ c → 0 ≤ p.parts ∧ p.parts ≤ 20 ∧ -300 ≤ p.add ∧ p.add ≤ 300) ∧ c.Pairwise (fun a b => a.parts < b.parts) ∧ ∀ p, p ∈ c → last < p.parts
  | [], _, _ => ⟨by simp, .nil, by simp⟩
  | q :: r, last, h => by
    rw [ptErr] at h
    split at h
    · rename_i hg
      split at h
      · cases h
      · rename_i hl
        obtain ⟨h1, h2, h3⟩ := ptErr_ok r _ h
        have hq : 0 ≤ q.parts ∧ q.parts ≤ 20 ∧ -300 ≤ q.add ∧ q.add ≤ 300 := by simp [gIn] at hg; omega
        refine ⟨?_, .cons (fun p hp => h3 p hp) h2, ?_⟩
        · intro p hp
          rcases List.mem_cons.1 hp with rfl | hp
          · exact hq
          · exact h1 p hp
        · intro p hp
          rcases List.mem_cons.1 hp with rfl | hp
          · omega
          · have := h3 p hp; omega
    · cases h
theorem curveOk_of {c : List BdPoint} (h : curveErr c = 0) : CurveOk c := by
  unfold curveErr at h
  split at h
  · cases h
  · obtain ⟨h1, h2, _⟩ := ptErr_ok c _ h
    exact ⟨by omega, h1, h2⟩

/-- between two points -/
def onLine (a b : BdPoint) (n : Int) : Int := a.add + (b.add - a.add) * (n - a.parts) / (b.parts - a.parts)
def addGo (a : BdPoint) : List BdPoint → Int → Int
  | [], _ => a.add
  | b :: r, n => if n ≤ b.parts then onLine a b n else addGo b r n
/-- what a curve raises with so many parts -/
def addS : List BdPoint → Int → Int
  | [], _ => 0
  | a :: r, n => if n ≤ a.parts then a.add else addGo a r n

theorem down_eq (a b : Int) (hb : 0 < b) : (if a.tmod b < 0 then a.tdiv b - 1 else a.tdiv b) = a / b := by
  have h := Int.mul_tdiv_add_tmod a b
  rcases Int.le_total 0 a with ha | ha
  · have h1 := Int.tmod_nonneg b ha
    rw [if_neg (by omega), Int.tdiv_eq_ediv_of_nonneg ha]
  · have h1 : -b < a.tmod b := Int.lt_tmod_of_pos a hb
    have h2 : a.tmod b ≤ 0 := by
      have := Int.tmod_nonneg b (a := -a) (by omega)
      rw [Int.neg_tmod] at this
      omega
    split
    · rename_i h3
      symm
      rw [Int.ediv_eq_iff_of_pos hb]
      have : b * (a.tdiv b - 1) = b * a.tdiv b - b := by rw [Int.mul_sub, Int.mul_one]
      rw [Int.mul_comm]
      constructor <;> omega
    · rename_i h3
      symm
      rw [Int.ediv_eq_iff_of_pos hb]
      rw [Int.mul_comm]
      constructor <;> omega
theorem cDown0 (a b : Int) (ha : -1000000000000000 ≤ a ∧ a ≤ 1000000000000000) (hb : 0 < b) : PCall Try.prog 78 [.int .i64 a, .int .i64 b] (.int .i64 (a / b)) := by
  refine pcall_of_wp draws (fn := Try.f78) (n := 16) (rs := [.tmp 4]) (by kernel_rfl) rfl rfl rfl ok78 (Nat.le_of_ble_eq_true rfl) ?_
  have hb0 : b ≠ 0 := by omega
  have hq : -1000000000000000 ≤ a.tdiv b ∧ a.tdiv b ≤ 1000000000000000 := by
    have h1 := Int.natAbs_tdiv_le_natAbs a b
    omega
  have hw : IntKind.i64.wrap (a.tdiv b) = a.tdiv b := wrap_in (by omega) (by omega)
  have hw1 : IntKind.i64.wrap (a.tdiv b - 1) = a.tdiv b - 1 := wrap_in (by omega) (by omega)
  have he := down_eq a b hb
  simp (config := { maxSteps := 400000 }) only [hb0, hw, go_sem, ↓reduceIte, reduceCtorEq, Nat.reduceEqDiff, Nat.reduceAdd, Nat.reduceLT, Nat.reduceLeDiff, Nat.reduceSub, Int.reduceToNat, Int.reduceLE, Int.reduceLT, Int.reduceNeg, Int.reduceBEq, Int.reduceBNe, Nat.reduceMul, Int.reduceAdd, Int.reduceMul, Int.reduceSub, Int.reduceEq, Int.reduceNe]
  refine WB_split (fun hc => ?_) (fun hc => ?_) <;> simp (config := { maxSteps := 400000 }) only [hc, hw1, go_sem, ↓reduceIte, reduceCtorEq, Nat.reduceEqDiff, Nat.reduceAdd, Nat.reduceLT, Nat.reduceLeDiff, Nat.reduceSub, Int.reduceToNat, Int.reduceLE, Int.reduceLT, Int.reduceNeg, Int.reduceBEq, Int.reduceBNe, Nat.reduceMul, Int.reduceAdd, Int.reduceMul, Int.reduceSub, Int.reduceEq, Int.reduceNe]
  · rw [if_pos (by simpa using hc)] at he; exact he
  · rw [if_neg (by simpa using hc)] at he; exact he
theorem cDown1 (a b : Int) (ha : -1000000000000000 ≤ a ∧ a ≤ 1000000000000000) (hb : 0 < b) : PCall Try.prog 79 [.int .i64 a, .int .i64 b] (.int .i64 (a / b)) := by
  refine pcall_of_wp draws (fn := Try.f79) (n := 16) (rs := [.tmp 4]) (by kernel_rfl) rfl rfl rfl ok79 (Nat.le_of_ble_eq_true rfl) ?_
  have hb0 : b ≠ 0 := by omega
  have hq : -1000000000000000 ≤ a.tdiv b ∧ a.tdiv b ≤ 1000000000000000 := by
    have h1 := Int.natAbs_tdiv_le_natAbs a b
    omega
  have hw : IntKind.i64.wrap (a.tdiv b) = a.tdiv b := wrap_in (by omega) (by omega)
  have hw1 : IntKind.i64.wrap (a.tdiv b - 1) = a.tdiv b - 1 := wrap_in (by omega) (by omega)
  have he := down_eq a b hb
  simp (config := { maxSteps := 400000 }) only [hb0, hw, go_sem, ↓reduceIte, reduceCtorEq, Nat.reduceEqDiff, Nat.reduceAdd, Nat.reduceLT, Nat.reduceLeDiff, Nat.reduceSub, Int.reduceToNat, Int.reduceLE, Int.reduceLT, Int.reduceNeg, Int.reduceBEq, Int.reduceBNe, Nat.reduceMul, Int.reduceAdd, Int.reduceMul, Int.reduceSub, Int.reduceEq, Int.reduceNe]
  refine WB_split (fun hc => ?_) (fun hc => ?_) <;> simp (config := { maxSteps := 400000 }) only [hc, hw1, go_sem, ↓reduceIte, reduceCtorEq, Nat.reduceEqDiff, Nat.reduceAdd, Nat.reduceLT, Nat.reduceLeDiff, Nat.reduceSub, Int.reduceToNat, Int.reduceLE, Int.reduceLT, Int.reduceNeg, Int.reduceBEq, Int.reduceBNe, Nat.reduceMul, Int.reduceAdd, Int.reduceMul, Int.reduceSub, Int.reduceEq, Int.reduceNe]
  · rw [if_pos (by simpa using hc)] at he; exact he
  · rw [if_neg (by simpa using hc)] at he; exact he
theorem cReached (c : List BdPoint) (b : Bool) (n : Int) (i : Nat) (p : BdPoint) (hi : c[i]? = some p) : PCall Try.prog 86 [.agg [.slice 2 (c.map BdPoint.pv) b, .int .i64 n], .int .i64 i] (.bool (decide (n ≤ p.parts))) := by
  refine pcall_of_wp draws (fn := Try.f86) (n := 14) (rs := [.tmp 4]) (by kernel_rfl) rfl rfl rfl ok86 (Nat.le_of_ble_eq_true rfl) ?_
  have hlt : ((i : Nat) : Int) < (c.length : Int) := by have := (List.getElem?_eq_some_iff.1 hi).1; omega
  simp (config := { maxSteps := 400000 }) only [hlt, hi, go_sem, ↓reduceIte, reduceCtorEq, Nat.reduceEqDiff, Nat.reduceAdd, Nat.reduceLT, Nat.reduceLeDiff, Nat.reduceSub, Int.reduceToNat, Int.reduceLE, Int.reduceLT, Int.reduceNeg, Int.reduceBEq, Int.reduceBNe, Nat.reduceMul, Int.reduceAdd, Int.reduceMul, Int.reduceSub, Int.reduceEq, Int.reduceNe]
/-- the points below, and the others -/
theorem curve_split : ∀ {c : List BdPoint} (n : Int), c.Pairwise (fun a b => a.parts < b.parts) → ∃ pre post, c = pre ++ post ∧ (∀ p, p ∈ pre → p.parts < n) ∧ ∀ p, p ∈ post → n ≤ p.parts
  | [], _, _ => ⟨[], [], rfl, by simp, by simp⟩
  | a :: r, n, h => by
    cases h with
    | cons h1 h2 =>
      by_cases ha : a.parts < n
      · obtain ⟨pre, post, e, g1, g2⟩ := curve_split n h2
        refine ⟨a :: pre, post, by rw [e]; rfl, fun p hp => ?_, g2⟩
        rcases List.mem_cons.1 hp with rfl | hp
        · exact ha
        · exact g1 p hp
      · refine ⟨[], a :: r, rfl, by simp, fun p hp => ?_⟩
        rcases List.mem_cons.1 hp with rfl | hp
        · omega
        · have := h1 p hp; omega
theorem addGo_pre (n : Int) : ∀ (pre : List BdPoint) (x a : BdPoint) (post : List BdPoint), (∀ p, p ∈ pre ++ [a] → p.parts < n) → addGo x (pre ++ a :: post) n = addGo a post n
  | [], x, a, post, h => by
    have := h a (by simp)
    rw [List.nil_append, addGo, if_neg (by omega)]
  | y :: pre, x, a, post, h => by
    have := h y (by simp)
    rw [List.cons_append, addGo, if_neg (by omega)]
    exact addGo_pre n pre y a post fun p hp => h p (by simp at hp ⊢; exact .inr hp)
theorem addS_pre {n : Int} (pre : List BdPoint) (a : BdPoint) (post : List BdPoint) (h : ∀ p, p ∈ pre ++ [a] → p.parts < n) : addS (pre ++ a :: post) n = addGo a post n := by
  cases pre with
  | nil =>
    have := h a (by simp)
    rw [List.nil_append, addS, if_neg (by omega)]
  | cons y pre =>
    have := h y (by simp)
    rw [List.cons_append, addS, if_neg (by omega)]
    exact addGo_pre n pre y a post fun p hp => h p (by simp at hp ⊢; exact .inr hp)
/-- numbers on a line, far from a word's ends -/
theorem line_bd {a b : BdPoint} {n : Int} (ha : 0 ≤ a.parts ∧ a.parts ≤ 20 ∧ -300 ≤ a.add ∧ a.add ≤ 300) (hb : 0 ≤ b.parts ∧ b.parts ≤ 20 ∧ -300 ≤ b.add ∧ b.add ≤ 300) (h1 : a.parts ≤ n) (h2 : n ≤ b.parts) (h3 : a.parts < b.parts) :
    -20000 ≤ (b.add - a.add) * (n - a.parts) ∧ (b.add - a.add) * (n - a.parts) ≤ 20000 ∧
    ((a.add ≤ b.add → a.add ≤ onLine a b n ∧ onLine a b n ≤ b.add) ∧ (b.add ≤ a.add → b.add ≤ onLine a b n ∧ onLine a b n ≤ a.add)) := by
  unfold onLine
  generalize hk : n - a.parts = k
  generalize hm : b.parts - a.parts = m
  generalize hd : b.add - a.add = d
  have k0 : 0 ≤ k := by omega
  have k1 : k ≤ 20 := by omega
  have hkm : k ≤ m := by omega
  have m0 : 0 < m := by omega
  have e1 : (-600) * k ≤ d * k := Int.mul_le_mul_of_nonneg_right (by omega) k0
  have e2 : d * k ≤ 600 * k := Int.mul_le_mul_of_nonneg_right (by omega) k0
  refine ⟨by omega, by omega, fun h => ?_, fun h => ?_⟩
  · have d0 : 0 ≤ d := by omega
    have g1 : 0 ≤ d * k / m := Int.ediv_nonneg (Int.mul_nonneg d0 k0) (by omega)
    have g2 : d * k / m ≤ d := by
      have := Int.ediv_le_ediv m0 (Int.mul_le_mul_of_nonneg_left hkm d0)
      rwa [Int.mul_ediv_cancel _ (by omega)] at this
    omega
  · have d0 : d ≤ 0 := by omega
    have g1 : d * k / m ≤ 0 := by
      have := Int.ediv_le_ediv m0 (show d * k ≤ 0 from Int.mul_nonpos_of_nonpos_of_nonneg d0 k0)
      simpa using this
    have g2 : d ≤ d * k / m := by
      have e : d * m ≤ d * k := Int.mul_le_mul_of_nonpos_left d0 hkm
      have := Int.ediv_le_ediv m0 e
      rwa [Int.mul_ediv_cancel _ (by omega)] at this
    omega
theorem cBdAdd (c : List BdPoint) (b : Bool) (n : Int) (hc : CurveOk c) : PCall Try.prog 57 [.agg [.slice 2 (c.map BdPoint.pv) b, .int .i64 n]] (.int .i64 (addS c n)) := by
  refine pcall_of_wp draws (fn := Try.f57) (n := 67) (rs := [.tmp 2]) (by kernel_rfl) rfl rfl rfl ok57 (Nat.le_of_ble_eq_true rfl) ?_
  obtain ⟨pre, post, e, g1, g2⟩ := curve_split n hc.up
  have hlen := hc.len
  have hlt : pre.length ≤ c.length := by rw [e]; simp
  simp (config := { maxSteps := 400000 }) only [H57, W_drawH, go_sem, ↓reduceIte, reduceCtorEq, Nat.reduceEqDiff, Nat.reduceAdd, Nat.reduceLT, Nat.reduceLeDiff, Nat.reduceSub, Int.reduceToNat, Int.reduceLE, Int.reduceLT, Int.reduceNeg, Int.reduceBEq, Int.reduceBNe, Nat.reduceMul, Int.reduceAdd, Int.reduceMul, Int.reduceSub, Int.reduceEq, Int.reduceNe]
  refine WB_split (fun hb => ?_) (fun hb => ?_)
  · have : c = [] := by simpa using hb
    simp (config := { maxSteps := 400000 }) only [this, addS, go_sem, ↓reduceIte, reduceCtorEq, Nat.reduceEqDiff, Nat.reduceAdd, Nat.reduceLT, Nat.reduceLeDiff, Nat.reduceSub, Int.reduceToNat, Int.reduceLE, Int.reduceLT, Int.reduceNeg, Int.reduceBEq, Int.reduceBNe, Nat.reduceMul, Int.reduceAdd, Int.reduceMul, Int.reduceSub, Int.reduceEq, Int.reduceNe]
  simp (config := { maxSteps := 400000 }) only [go_sem, ↓reduceIte, reduceCtorEq, Nat.reduceEqDiff, Nat.reduceAdd, Nat.reduceLT, Nat.reduceLeDiff, Nat.reduceSub, Int.reduceToNat, Int.reduceLE, Int.reduceLT, Int.reduceNeg, Int.reduceBEq, Int.reduceBNe, Nat.reduceMul, Int.reduceAdd, Int.reduceMul, Int.reduceSub, Int.reduceEq, Int.reduceNe]
  refine WF_pure (cSearch (fv := .func (.func 86) [.agg [.slice 2 (c.map BdPoint.pv) b, .int .i64 n]] []) c.length (fun i => match c[i]? with | some p => decide (n ≤ p.parts) | none => true) (by omega) (fun i hi => ?_) pre.length hlt (fun i hi => ?_) fun i h1 h2 => ?_) rfl ?_
  · have hg : c[i]? = some c[i] := List.getElem?_eq_getElem hi
    rw [hg]
    exact ⟨_, _, _, rfl, cReached c b n i _ hg⟩
  · rw [e, List.getElem?_append_left hi, List.getElem?_eq_getElem hi]
    have := g1 _ (List.getElem_mem hi)
    simp; omega
  · have hh : i - pre.length < post.length := by rw [e] at h2; simp at h2; omega
    rw [e, List.getElem?_append_right h1, List.getElem?_eq_getElem hh]
    have := g2 _ (List.getElem_mem hh)
    simp; omega
  simp (config := { maxSteps := 400000 }) only [go_sem, ↓reduceIte, reduceCtorEq, Nat.reduceEqDiff, Nat.reduceAdd, Nat.reduceLT, Nat.reduceLeDiff, Nat.reduceSub, Int.reduceToNat, Int.reduceLE, Int.reduceLT, Int.reduceNeg, Int.reduceBEq, Int.reduceBNe, Nat.reduceMul, Int.reduceAdd, Int.reduceMul, Int.reduceSub, Int.reduceEq, Int.reduceNe]
  rcases List.eq_nil_or_concat pre with rfl | ⟨pr, a, hp⟩
  · cases post with
    | nil => subst e; simp at hb
    | cons x post =>
      have hx := g2 x (by simp)
      rw [List.nil_append] at e
      have h0 : c[0]? = some x := by rw [e]; rfl
      have h0' : (0 : Int) < (c.length : Int) := by rw [e]; simp <;> omega
      simp (config := { maxSteps := 400000 }) only [h0', h0, List.length_nil, go_sem, ↓reduceIte, reduceCtorEq, Nat.reduceEqDiff, Nat.reduceAdd, Nat.reduceLT, Nat.reduceLeDiff, Nat.reduceSub, Int.reduceToNat, Int.reduceLE, Int.reduceLT, Int.reduceNeg, Int.reduceBEq, Int.reduceBNe, Nat.reduceMul, Int.reduceAdd, Int.reduceMul, Int.reduceSub, Int.reduceEq, Int.reduceNe]
      rw [e, addS, if_pos hx]
  · rw [List.concat_eq_append] at hp
    subst hp
    have hz : ((((pr ++ [a]).length : Nat) : Int) == 0) = false := by simp <;> omega
    have hw1 : IntKind.i64.wrap ((((pr ++ [a]).length : Nat) : Int) - 1) = ((pr.length : Nat) : Int) := by
      rw [wrap_small (by simp <;> omega) (by simp [room] at hlt ⊢; omega)]; simp
    have ha : c[pr.length]? = some a := by rw [e]; simp
    have hla : ((pr.length : Nat) : Int) < (c.length : Int) := by simp at hlt; omega
    have hadd : addS c n = addGo a post n := by rw [e]; simpa using addS_pre pr a post g1
    cases post with
    | nil =>
      have hlc : ((((pr ++ [a]).length : Nat) : Int) == (c.length : Int)) = true := by rw [e]; simp
      simp (config := { maxSteps := 400000 }) only [hz, hlc, hw1, ha, hla, hadd, addGo, go_sem, ↓reduceIte, reduceCtorEq, Nat.reduceEqDiff, Nat.reduceAdd, Nat.reduceLT, Nat.reduceLeDiff, Nat.reduceSub, Int.reduceToNat, Int.reduceLE, Int.reduceLT, Int.reduceNeg, Int.reduceBEq, Int.reduceBNe, Nat.reduceMul, Int.reduceAdd, Int.reduceMul, Int.reduceSub, Int.reduceEq, Int.reduceNe]
    | cons x post =>
      have hx := g2 x (by simp)
      have hap := g1 a (by simp)
      have hxc : c[(pr ++ [a]).length]? = some x := by rw [e]; simp
      have hlx : (((pr ++ [a]).length : Nat) : Int) < (c.length : Int) := by rw [e]; simp <;> omega
      have hlc : ((((pr ++ [a]).length : Nat) : Int) == (c.length : Int)) = false := by simp only [beq_eq_false_iff_ne]; omega
      have pa := hc.pt a (by rw [e]; simp)
      have px := hc.pt x (by rw [e]; simp)
      obtain ⟨b1, b2, b3⟩ := line_bd pa px (by omega) hx (by omega)
      have w1 : IntKind.i64.wrap (x.add - a.add) = x.add - a.add := wrap_in (by omega) (by omega)
      have w2 : IntKind.i64.wrap (n - a.parts) = n - a.parts := wrap_in (by omega) (by omega)
      have w3 : IntKind.i64.wrap ((x.add - a.add) * (n - a.parts)) = (x.add - a.add) * (n - a.parts) := wrap_in (by omega) (by omega)
      have w4 : IntKind.i64.wrap (x.parts - a.parts) = x.parts - a.parts := wrap_in (by omega) (by omega)
      have w5 : IntKind.i64.wrap (onLine a x n) = onLine a x n := wrap_in (by omega) (by omega)
      simp (config := { maxSteps := 400000 }) only [hz, hlc, hw1, ha, hla, hxc, hlx, w1, w2, w3, w4, H57, W_drawH, go_sem, ↓reduceIte, reduceCtorEq, Nat.reduceEqDiff, Nat.reduceAdd, Nat.reduceLT, Nat.reduceLeDiff, Nat.reduceSub, Int.reduceToNat, Int.reduceLE, Int.reduceLT, Int.reduceNeg, Int.reduceBEq, Int.reduceBNe, Nat.reduceMul, Int.reduceAdd, Int.reduceMul, Int.reduceSub, Int.reduceEq, Int.reduceNe]
      refine WDQ_pure (cDown0 _ _ (by omega) (by omega)) rfl ?_
      simp (config := { maxSteps := 400000 }) only [go_sem, ↓reduceIte, reduceCtorEq, Nat.reduceEqDiff, Nat.reduceAdd, Nat.reduceLT, Nat.reduceLeDiff, Nat.reduceSub, Int.reduceToNat, Int.reduceLE, Int.reduceLT, Int.reduceNeg, Int.reduceBEq, Int.reduceBNe, Nat.reduceMul, Int.reduceAdd, Int.reduceMul, Int.reduceSub, Int.reduceEq, Int.reduceNe]
      rw [hadd, addGo, if_pos hx]
      exact w5
theorem cRefAdd (c : List BdPoint) (b : Bool) (n : Int) (hc : CurveOk c) : PCall Try.prog 58 [.slice 2 (c.map BdPoint.pv) b, .int .i64 n] (.int .i64 (addS c n)) := by
  refine pcall_of_wp draws (fn := Try.f58) (n := 66) (rs := [.tmp 4]) (by kernel_rfl) rfl rfl rfl ok58 (Nat.le_of_ble_eq_true rfl) ?_
  have hlen := hc.len
  simp (config := { maxSteps := 400000 }) only [H58, W_drawH, go_sem, ↓reduceIte, reduceCtorEq, Nat.reduceEqDiff, Nat.reduceAdd, Nat.reduceLT, Nat.reduceLeDiff, Nat.reduceSub, Int.reduceToNat, Int.reduceLE, Int.reduceLT, Int.reduceNeg, Int.reduceBEq, Int.reduceBNe, Nat.reduceMul, Int.reduceAdd, Int.reduceMul, Int.reduceSub, Int.reduceEq, Int.reduceNe]
  refine WB_split (fun hb => ?_) (fun hb => ?_)
  · have : c = [] := by simpa using hb
    simp (config := { maxSteps := 400000 }) only [this, addS, go_sem, ↓reduceIte, reduceCtorEq, Nat.reduceEqDiff, Nat.reduceAdd, Nat.reduceLT, Nat.reduceLeDiff, Nat.reduceSub, Int.reduceToNat, Int.reduceLE, Int.reduceLT, Int.reduceNeg, Int.reduceBEq, Int.reduceBNe, Nat.reduceMul, Int.reduceAdd, Int.reduceMul, Int.reduceSub, Int.reduceEq, Int.reduceNe]
  cases hcc : c with
  | nil => subst hcc; simp at hb
  | cons x post =>
    rw [← hcc]
    have h0 : c[0]? = some x := by rw [hcc]; rfl
    have h0' : (0 : Int) < (c.length : Int) := by rw [hcc]; simp <;> omega
    simp (config := { maxSteps := 400000 }) only [h0, h0', go_sem, ↓reduceIte, reduceCtorEq, Nat.reduceEqDiff, Nat.reduceAdd, Nat.reduceLT, Nat.reduceLeDiff, Nat.reduceSub, Int.reduceToNat, Int.reduceLE, Int.reduceLT, Int.reduceNeg, Int.reduceBEq, Int.reduceBNe, Nat.reduceMul, Int.reduceAdd, Int.reduceMul, Int.reduceSub, Int.reduceEq, Int.reduceNe]
    refine WB_split (fun hb => ?_) (fun hb => ?_)
    · simp (config := { maxSteps := 400000 }) only [h0, h0', go_sem, ↓reduceIte, reduceCtorEq, Nat.reduceEqDiff, Nat.reduceAdd, Nat.reduceLT, Nat.reduceLeDiff, Nat.reduceSub, Int.reduceToNat, Int.reduceLE, Int.reduceLT, Int.reduceNeg, Int.reduceBEq, Int.reduceBNe, Nat.reduceMul, Int.reduceAdd, Int.reduceMul, Int.reduceSub, Int.reduceEq, Int.reduceNe]
      rw [hcc, addS, if_pos (by simpa using hb)]
    simp (config := { maxSteps := 400000 }) only [go_sem, ↓reduceIte, reduceCtorEq, Nat.reduceEqDiff, Nat.reduceAdd, Nat.reduceLT, Nat.reduceLeDiff, Nat.reduceSub, Int.reduceToNat, Int.reduceLE, Int.reduceLT, Int.reduceNeg, Int.reduceBEq, Int.reduceBNe, Nat.reduceMul, Int.reduceAdd, Int.reduceMul, Int.reduceSub, Int.reduceEq, Int.reduceNe]
    have hn0 : ¬ n ≤ x.parts := by simpa using hb
    refine W_loopH [0, 1] (σ := List BdPoint × BdPoint × List BdPoint) (fun q => c = q.1 ++ q.2.1 :: q.2.2 ∧ q.2.1.parts < n ∧ addS c n = addGo q.2.1 q.2.2 n) (fun q => q.2.2.length) (fun q => [(5, .p (.int .i64 ((q.1.length + 1 : Nat) : Int)))]) ([], x, post) ⟨hcc, by simp; omega, by rw [hcc, addS, if_neg hn0]⟩ ?_ ?_
    · simp (config := { maxSteps := 400000 }) only [go_sem, ↓reduceIte, reduceCtorEq, Nat.reduceEqDiff, Nat.reduceAdd, Nat.reduceLT, Nat.reduceLeDiff, Nat.reduceSub, Int.reduceToNat, Int.reduceLE, Int.reduceLT, Int.reduceNeg, Int.reduceBEq, Int.reduceBNe, Nat.reduceMul, Int.reduceAdd, Int.reduceMul, Int.reduceSub, Int.reduceEq, Int.reduceNe] <;> simp
    rintro ⟨pre, a, rest⟩ ⟨e1, e3, e2⟩
    dsimp only at e1 e2 e3
    have ha : c[pre.length]? = some a := by rw [e1]; simp
    have hla : ((pre.length : Nat) : Int) < (c.length : Int) := by rw [e1]; simp <;> omega
    have hw1 : IntKind.i64.wrap (((pre.length + 1 : Nat) : Int) - 1) = ((pre.length : Nat) : Int) := by
      rw [wrap_small (by omega) (by simp [room]; omega)]; omega
    cases rest with
    | nil =>
      have hlt : ¬ (((pre.length + 1 : Nat) : Int) < (c.length : Int)) := by rw [e1]; simp
      have hw2 : IntKind.i64.wrap ((c.length : Int) - 1) = ((pre.length : Nat) : Int) := by
        rw [wrap_small (by omega) (by simp [room]; omega), e1]; simp
      simp (config := { maxSteps := 400000 }) only [hlt, hw2, ha, hla, go_sem, ↓reduceIte, reduceCtorEq, Nat.reduceEqDiff, Nat.reduceAdd, Nat.reduceLT, Nat.reduceLeDiff, Nat.reduceSub, Int.reduceToNat, Int.reduceLE, Int.reduceLT, Int.reduceNeg, Int.reduceBEq, Int.reduceBNe, Nat.reduceMul, Int.reduceAdd, Int.reduceMul, Int.reduceSub, Int.reduceEq, Int.reduceNe]
      rw [e2, addGo]
    | cons y r =>
      have hlt : ((pre.length + 1 : Nat) : Int) < (c.length : Int) := by rw [e1]; simp <;> omega
      have hy : c[pre.length + 1]? = some y := by rw [e1]; simp
      have hap := (List.pairwise_append.1 (e1 ▸ hc.up)).2.1
      have hay : a.parts < y.parts := by cases hap with | cons h _ => exact h y (by simp)
      have hnx : IntKind.i64.wrap (((pre.length + 1 : Nat) : Int) + 1) = ((pre.length + 1 + 1 : Nat) : Int) := wrap_add (by omega) (by simp [room]; omega) (by omega)
      simp (config := { maxSteps := 400000 }) only [hlt, hw1, ha, hla, hy, H58, W_drawH, go_sem, ↓reduceIte, reduceCtorEq, Nat.reduceEqDiff, Nat.reduceAdd, Nat.reduceLT, Nat.reduceLeDiff, Nat.reduceSub, Int.reduceToNat, Int.reduceLE, Int.reduceLT, Int.reduceNeg, Int.reduceBEq, Int.reduceBNe, Nat.reduceMul, Int.reduceAdd, Int.reduceMul, Int.reduceSub, Int.reduceEq, Int.reduceNe]
      refine WB_split (fun hb => ?_) (fun hb => ?_)
      · have hny : n ≤ y.parts := by simpa using hb
        have pa := hc.pt a (by rw [e1]; simp)
        have px := hc.pt y (by rw [e1]; simp)
        obtain ⟨b1, b2, b3⟩ := line_bd pa px (by omega) hny (by omega)
        have w1 : IntKind.i64.wrap (y.add - a.add) = y.add - a.add := wrap_in (by omega) (by omega)
        have w2 : IntKind.i64.wrap (n - a.parts) = n - a.parts := wrap_in (by omega) (by omega)
        have w3 : IntKind.i64.wrap ((y.add - a.add) * (n - a.parts)) = (y.add - a.add) * (n - a.parts) := wrap_in (by omega) (by omega)
        have w4 : IntKind.i64.wrap (y.parts - a.parts) = y.parts - a.parts := wrap_in (by omega) (by omega)
        have w5 : IntKind.i64.wrap (onLine a y n) = onLine a y n := wrap_in (by omega) (by omega)
        simp (config := { maxSteps := 400000 }) only [w1, w2, w3, w4, H58, W_drawH, go_sem, ↓reduceIte, reduceCtorEq, Nat.reduceEqDiff, Nat.reduceAdd, Nat.reduceLT, Nat.reduceLeDiff, Nat.reduceSub, Int.reduceToNat, Int.reduceLE, Int.reduceLT, Int.reduceNeg, Int.reduceBEq, Int.reduceBNe, Nat.reduceMul, Int.reduceAdd, Int.reduceMul, Int.reduceSub, Int.reduceEq, Int.reduceNe]
        refine WDQ_pure (cDown1 _ _ (by omega) (by omega)) rfl ?_
        simp (config := { maxSteps := 400000 }) only [go_sem, ↓reduceIte, reduceCtorEq, Nat.reduceEqDiff, Nat.reduceAdd, Nat.reduceLT, Nat.reduceLeDiff, Nat.reduceSub, Int.reduceToNat, Int.reduceLE, Int.reduceLT, Int.reduceNeg, Int.reduceBEq, Int.reduceBNe, Nat.reduceMul, Int.reduceAdd, Int.reduceMul, Int.reduceSub, Int.reduceEq, Int.reduceNe]
        rw [e2, addGo, if_pos hny]
        exact w5
      · have hny : ¬ n ≤ y.parts := by simpa using hb
        simp (config := { maxSteps := 400000 }) only [go_sem, ↓reduceIte, reduceCtorEq, Nat.reduceEqDiff, Nat.reduceAdd, Nat.reduceLT, Nat.reduceLeDiff, Nat.reduceSub, Int.reduceToNat, Int.reduceLE, Int.reduceLT, Int.reduceNeg, Int.reduceBEq, Int.reduceBNe, Nat.reduceMul, Int.reduceAdd, Int.reduceMul, Int.reduceSub, Int.reduceEq, Int.reduceNe]
        refine WQ_headA (pre ++ [a], y, r) ⟨by simp [e1], by dsimp only; omega, by rw [e2, addGo, if_neg hny]⟩ (by simp) ?_
        simp (config := { maxSteps := 400000 }) only [hnx, go_sem, ↓reduceIte, reduceCtorEq, Nat.reduceEqDiff, Nat.reduceAdd, Nat.reduceLT, Nat.reduceLeDiff, Nat.reduceSub, Int.reduceToNat, Int.reduceLE, Int.reduceLT, Int.reduceNeg, Int.reduceBEq, Int.reduceBNe, Nat.reduceMul, Int.reduceAdd, Int.reduceMul, Int.reduceSub, Int.reduceEq, Int.reduceNe]
        simp
end Abs
end Go.Proofs.Ythekmbikolpmlaa
