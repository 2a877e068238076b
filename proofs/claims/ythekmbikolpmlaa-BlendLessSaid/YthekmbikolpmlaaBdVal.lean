/-
  CONTRACTS: recipes, what waxes give to a blend, its ends; in the program and in the reference.
-/
import Derived.Test.YthekmbikolpmlaaBdAdd
namespace Go.Proofs.Ythekmbikolpmlaa
namespace Abs
set_option linter.unusedSimpArgs false
set_option maxRecDepth 4000

/-! what is known of waxes -/
structure BdWaxOk (x : BdWax) : Prop where
  price : 0 ≤ x.price ∧ x.price ≤ 100000
  melt : 0 ≤ x.melt.lo ∧ x.melt.lo ≤ x.melt.hi ∧ x.melt.hi ≤ 2000
  shrink : 0 ≤ x.shrink.lo ∧ x.shrink.lo ≤ x.shrink.hi ∧ x.shrink.hi ≤ 1000
  curve : CurveOk x.curve
structure BdWaxesOk (l : List BdWax) : Prop where
  len : 1 ≤ l.length ∧ l.length ≤ 5
  wax : ∀ x, x ∈ l → BdWaxOk x
def bdE (l : List BdWax) : Int := (bdCheck l).2.2
theorem bdWaxOk_of {before : List ByteArray} {x : BdWax} (h : bdWaxErr before x = 0) : BdWaxOk x ∧ namedErr before x.name = 0 := by
  unfold bdWaxErr at h
  split at h
  · rename_i hn
    split at h
    · rename_i hg
      split at h
      · cases h
      · rename_i ht
        simp [gIn, inS, turnedS] at hg ht
        exact ⟨⟨by omega, by omega, by omega, curveOk_of h⟩, hn⟩
    · cases h
  · rename_i hn; exact absurd h hn
theorem firstErr_none {α : Type} {f : List ByteArray → α → Int} {nm : α → ByteArray} : ∀ {l : List α} {before : List ByteArray}, firstErr f nm l before = none → ∀ x, x ∈ l → ∃ b, f b x = 0
  | [], _, _, _, hx => by cases hx
  | y :: r, before, h, x, hx => by
    rw [firstErr] at h
    split at h
    · rename_i h0
      rcases List.mem_cons.1 hx with rfl | hx
      · exact ⟨_, h0⟩
      · exact firstErr_none h x hx
    · cases h
theorem firstErr_ne {α : Type} {f : List ByteArray → α → Int} {nm : α → ByteArray} : ∀ {l : List α} {before : List ByteArray} {i e : Int}, firstErr f nm l before = some (i, e) → e ≠ 0
  | [], _, _, _, h => by cases h
  | y :: r, before, i, e, h => by
    rw [firstErr] at h
    split at h
    · exact firstErr_ne h
    · rename_i h0
      cases h; exact h0
theorem bdE_first {l : List BdWax} (h : bdE l = 0) : (1 ≤ l.length ∧ l.length ≤ 5) ∧ firstErr bdWaxErr (·.name) l [] = none := by
  unfold bdE bdCheck at h
  split at h
  · rename_i hg
    refine ⟨by simp [gIn] at hg; omega, ?_⟩
    cases hf : firstErr bdWaxErr (·.name) l [] with
    | none => rfl
    | some q =>
      obtain ⟨i, e⟩ := q
      rw [hf] at h
      exact absurd h (firstErr_ne hf)
  · cases h
theorem bdWaxesOk_of {l : List BdWax} (h : bdE l = 0) : BdWaxesOk l := by
  obtain ⟨h1, h2⟩ := bdE_first h
  exact ⟨h1, fun x hx => let ⟨b, hb⟩ := firstErr_none h2 x hx; (bdWaxOk_of hb).1⟩

/-! recipes -/
def recErr (m : Nat) (r : List Int) : Int := if r.length = m then (if r.any (fun n => !gIn n 0 20) = true then 7 else if r.sum = 20 then 0 else 2) else 3
structure RecOk (m : Nat) (r : List Int) : Prop where
  len : r.length = m
  rng : ∀ n, n ∈ r → 0 ≤ n ∧ n ≤ 20
  sum : r.sum = 20
theorem recOk_of {m : Nat} {r : List Int} (h : recErr m r = 0) : RecOk m r := by
  unfold recErr at h
  split at h
  · rename_i hl
    split at h
    · cases h
    · rename_i ha
      split at h
      · rename_i hs
        refine ⟨hl, fun n hn => ?_, hs⟩
        simp [gIn] at ha
        have := ha n hn
        omega
      · cases h
  · cases h
theorem recErr_ok {m : Nat} {r : List Int} (h : RecOk m r) : recErr m r = 0 := by
  have : ¬ (r.any (fun n => !gIn n 0 20) = true) := by
    simp [gIn]
    exact fun n hn => h.rng n hn
  rw [recErr, if_pos h.len, if_neg this, if_pos h.sum]

/-- added up, with the places -/
def sumI {α : Type} (f : Nat → α → Int) : List α → Nat → Int
  | [], _ => 0
  | x :: r, i => f i x + sumI f r (i + 1)
theorem sumI_eq {α : Type} (f : α → Int) : ∀ (l : List α) (i : Nat), sumI (fun _ x => f x) l i = (l.map f).sum
  | [], _ => rfl
  | x :: r, i => by rw [sumI, sumI_eq f r, List.map_cons, List.sum_cons]

def partPV (p : BdWax × Int) : PV := .agg [.str p.1.name, .int .i64 p.1.price, .int .i64 p.1.melt.lo, .int .i64 p.1.melt.hi, .int .i64 p.1.shrink.lo, .int .i64 p.1.shrink.hi, .slice 2 (p.1.curve.map BdPoint.pv) false, .int .i64 p.2]
attribute [go_sem] partPV
theorem cBdSum0 {fv : PV} (l : List Int) (f : Nat → Int → Int) (b : Bool) (sz : Nat) (hsz : sz = 1) (hl : l.length ≤ 1000) (hf : ∀ (i : Nat) x, l[i]? = some x → App Try.prog fv [.int .i64 i, intPV x] (.int .i64 (f i x)) ∧ -1000000000 ≤ f i x ∧ f i x ≤ 1000000000) :
    PCall Try.prog 93 [.slice sz (l.map intPV) b, fv] (.int .i64 (sumI f l 0)) := by
  subst hsz
  refine pcall_of_wp draws (fn := Try.f93) (n := 22) (rs := [.tmp 4]) (by kernel_rfl) rfl rfl rfl ok93 (Nat.le_of_ble_eq_true rfl) ?_
  simp (config := { maxSteps := 400000 }) only [go_sem, ↓reduceIte, reduceCtorEq, Nat.reduceEqDiff, Nat.reduceAdd, Nat.reduceLT, Nat.reduceLeDiff, Nat.reduceSub, Int.reduceToNat, Int.reduceLE, Int.reduceLT, Int.reduceNeg, Int.reduceBEq, Int.reduceBNe, Nat.reduceMul, Int.reduceAdd, Int.reduceMul, Int.reduceSub, Int.reduceEq, Int.reduceNe]
  refine W_rangeH [1, 7, 8] l (by omega) (τ := Int) (fun done rest n => sumI f l 0 = n + sumI f rest done.length ∧ -1000000000 * (done.length : Int) ≤ n ∧ n ≤ 1000000000 * (done.length : Int)) (fun done n => [(9, .p (.int .i64 done.length)), (4, .p (.int .i64 n))]) 0 ⟨by simp, by simp, by simp⟩ ?_ ?_ ?_
  · simp (config := { maxSteps := 400000 }) only [go_sem, ↓reduceIte, reduceCtorEq, Nat.reduceEqDiff, Nat.reduceAdd, Nat.reduceLT, Nat.reduceLeDiff, Nat.reduceSub, Int.reduceToNat, Int.reduceLE, Int.reduceLT, Int.reduceNeg, Int.reduceBEq, Int.reduceBNe, Nat.reduceMul, Int.reduceAdd, Int.reduceMul, Int.reduceSub, Int.reduceEq, Int.reduceNe] <;> simp
  · rintro n ⟨e2, _⟩
    simp (config := { maxSteps := 400000 }) only [go_sem, ↓reduceIte, reduceCtorEq, Nat.reduceEqDiff, Nat.reduceAdd, Nat.reduceLT, Nat.reduceLeDiff, Nat.reduceSub, Int.reduceToNat, Int.reduceLE, Int.reduceLT, Int.reduceNeg, Int.reduceBEq, Int.reduceBNe, Nat.reduceMul, Int.reduceAdd, Int.reduceMul, Int.reduceSub, Int.reduceEq, Int.reduceNe]
    rw [e2]; simp [sumI]
  · rintro done x r n e1 ⟨e2, e3, e4⟩ hx hlt hnx
    obtain ⟨⟨g, first, cap, rfl, hc⟩, e5, e6⟩ := hf _ _ hx
    simp (config := { maxSteps := 400000 }) only [hlt, decide_true, hx, intPV, go_sem, ↓reduceIte, reduceCtorEq, Nat.reduceEqDiff, Nat.reduceAdd, Nat.reduceLT, Nat.reduceLeDiff, Nat.reduceSub, Int.reduceToNat, Int.reduceLE, Int.reduceLT, Int.reduceNeg, Int.reduceBEq, Int.reduceBNe, Nat.reduceMul, Int.reduceAdd, Int.reduceMul, Int.reduceSub, Int.reduceEq, Int.reduceNe]
    refine WF_pure hc (by simp [intPV]) ?_
    have hw : IntKind.i64.wrap (n + f done.length x) = n + f done.length x := wrap_in (by omega) (by omega)
    simp (config := { maxSteps := 400000 }) only [hw, go_sem, ↓reduceIte, reduceCtorEq, Nat.reduceEqDiff, Nat.reduceAdd, Nat.reduceLT, Nat.reduceLeDiff, Nat.reduceSub, Int.reduceToNat, Int.reduceLE, Int.reduceLT, Int.reduceNeg, Int.reduceBEq, Int.reduceBNe, Nat.reduceMul, Int.reduceAdd, Int.reduceMul, Int.reduceSub, Int.reduceEq, Int.reduceNe]
    refine WQ_next e1 (n + f done.length x) ⟨by rw [e2, sumI]; simp; omega, by simp; omega, by simp; omega⟩ ?_
    simp (config := { maxSteps := 400000 }) only [hnx, go_sem, ↓reduceIte, reduceCtorEq, Nat.reduceEqDiff, Nat.reduceAdd, Nat.reduceLT, Nat.reduceLeDiff, Nat.reduceSub, Int.reduceToNat, Int.reduceLE, Int.reduceLT, Int.reduceNeg, Int.reduceBEq, Int.reduceBNe, Nat.reduceMul, Int.reduceAdd, Int.reduceMul, Int.reduceSub, Int.reduceEq, Int.reduceNe]
theorem cBdSum1 {fv : PV} (l : List (BdWax × Int)) (f : Nat → (BdWax × Int) → Int) (b : Bool) (sz : Nat) (hsz : sz = 8) (hl : l.length ≤ 1000) (hf : ∀ (i : Nat) x, l[i]? = some x → App Try.prog fv [.int .i64 i, partPV x] (.int .i64 (f i x)) ∧ -1000000000 ≤ f i x ∧ f i x ≤ 1000000000) :
    PCall Try.prog 91 [.slice sz (l.map partPV) b, fv] (.int .i64 (sumI f l 0)) := by
  subst hsz
  refine pcall_of_wp draws (fn := Try.f91) (n := 22) (rs := [.tmp 4]) (by kernel_rfl) rfl rfl rfl ok91 (Nat.le_of_ble_eq_true rfl) ?_
  simp (config := { maxSteps := 400000 }) only [go_sem, ↓reduceIte, reduceCtorEq, Nat.reduceEqDiff, Nat.reduceAdd, Nat.reduceLT, Nat.reduceLeDiff, Nat.reduceSub, Int.reduceToNat, Int.reduceLE, Int.reduceLT, Int.reduceNeg, Int.reduceBEq, Int.reduceBNe, Nat.reduceMul, Int.reduceAdd, Int.reduceMul, Int.reduceSub, Int.reduceEq, Int.reduceNe]
  refine W_rangeH [1, 7, 8] l (by omega) (τ := Int) (fun done rest n => sumI f l 0 = n + sumI f rest done.length ∧ -1000000000 * (done.length : Int) ≤ n ∧ n ≤ 1000000000 * (done.length : Int)) (fun done n => [(9, .p (.int .i64 done.length)), (4, .p (.int .i64 n))]) 0 ⟨by simp, by simp, by simp⟩ ?_ ?_ ?_
  · simp (config := { maxSteps := 400000 }) only [go_sem, ↓reduceIte, reduceCtorEq, Nat.reduceEqDiff, Nat.reduceAdd, Nat.reduceLT, Nat.reduceLeDiff, Nat.reduceSub, Int.reduceToNat, Int.reduceLE, Int.reduceLT, Int.reduceNeg, Int.reduceBEq, Int.reduceBNe, Nat.reduceMul, Int.reduceAdd, Int.reduceMul, Int.reduceSub, Int.reduceEq, Int.reduceNe] <;> simp
  · rintro n ⟨e2, _⟩
    simp (config := { maxSteps := 400000 }) only [go_sem, ↓reduceIte, reduceCtorEq, Nat.reduceEqDiff, Nat.reduceAdd, Nat.reduceLT, Nat.reduceLeDiff, Nat.reduceSub, Int.reduceToNat, Int.reduceLE, Int.reduceLT, Int.reduceNeg, Int.reduceBEq, Int.reduceBNe, Nat.reduceMul, Int.reduceAdd, Int.reduceMul, Int.reduceSub, Int.reduceEq, Int.reduceNe]
    rw [e2]; simp [sumI]
  · rintro done x r n e1 ⟨e2, e3, e4⟩ hx hlt hnx
    obtain ⟨⟨g, first, cap, rfl, hc⟩, e5, e6⟩ := hf _ _ hx
    simp (config := { maxSteps := 400000 }) only [hlt, decide_true, hx, partPV, go_sem, ↓reduceIte, reduceCtorEq, Nat.reduceEqDiff, Nat.reduceAdd, Nat.reduceLT, Nat.reduceLeDiff, Nat.reduceSub, Int.reduceToNat, Int.reduceLE, Int.reduceLT, Int.reduceNeg, Int.reduceBEq, Int.reduceBNe, Nat.reduceMul, Int.reduceAdd, Int.reduceMul, Int.reduceSub, Int.reduceEq, Int.reduceNe]
    refine WF_pure hc (by simp [partPV]) ?_
    have hw : IntKind.i64.wrap (n + f done.length x) = n + f done.length x := wrap_in (by omega) (by omega)
    simp (config := { maxSteps := 400000 }) only [hw, go_sem, ↓reduceIte, reduceCtorEq, Nat.reduceEqDiff, Nat.reduceAdd, Nat.reduceLT, Nat.reduceLeDiff, Nat.reduceSub, Int.reduceToNat, Int.reduceLE, Int.reduceLT, Int.reduceNeg, Int.reduceBEq, Int.reduceBNe, Nat.reduceMul, Int.reduceAdd, Int.reduceMul, Int.reduceSub, Int.reduceEq, Int.reduceNe]
    refine WQ_next e1 (n + f done.length x) ⟨by rw [e2, sumI]; simp; omega, by simp; omega, by simp; omega⟩ ?_
    simp (config := { maxSteps := 400000 }) only [hnx, go_sem, ↓reduceIte, reduceCtorEq, Nat.reduceEqDiff, Nat.reduceAdd, Nat.reduceLT, Nat.reduceLeDiff, Nat.reduceSub, Int.reduceToNat, Int.reduceLE, Int.reduceLT, Int.reduceNeg, Int.reduceBEq, Int.reduceBNe, Nat.reduceMul, Int.reduceAdd, Int.reduceMul, Int.reduceSub, Int.reduceEq, Int.reduceNe]
theorem cBdSum2 {fv : PV} (l : List BdLot) (f : Nat → BdLot → Int) (b : Bool) (sz : Nat) (hsz : sz = 2) (hl : l.length ≤ 1000) (hf : ∀ (i : Nat) x, l[i]? = some x → App Try.prog fv [.int .i64 i, BdLot.pv x] (.int .i64 (f i x)) ∧ -1000000000 ≤ f i x ∧ f i x ≤ 1000000000) :
    PCall Try.prog 67 [.slice sz (l.map BdLot.pv) b, fv] (.int .i64 (sumI f l 0)) := by
  subst hsz
  refine pcall_of_wp draws (fn := Try.f67) (n := 22) (rs := [.tmp 4]) (by kernel_rfl) rfl rfl rfl ok67 (Nat.le_of_ble_eq_true rfl) ?_
  simp (config := { maxSteps := 400000 }) only [go_sem, ↓reduceIte, reduceCtorEq, Nat.reduceEqDiff, Nat.reduceAdd, Nat.reduceLT, Nat.reduceLeDiff, Nat.reduceSub, Int.reduceToNat, Int.reduceLE, Int.reduceLT, Int.reduceNeg, Int.reduceBEq, Int.reduceBNe, Nat.reduceMul, Int.reduceAdd, Int.reduceMul, Int.reduceSub, Int.reduceEq, Int.reduceNe]
  refine W_rangeH [1, 7, 8] l (by omega) (τ := Int) (fun done rest n => sumI f l 0 = n + sumI f rest done.length ∧ -1000000000 * (done.length : Int) ≤ n ∧ n ≤ 1000000000 * (done.length : Int)) (fun done n => [(9, .p (.int .i64 done.length)), (4, .p (.int .i64 n))]) 0 ⟨by simp, by simp, by simp⟩ ?_ ?_ ?_
  · simp (config := { maxSteps := 400000 }) only [go_sem, ↓reduceIte, reduceCtorEq, Nat.reduceEqDiff, Nat.reduceAdd, Nat.reduceLT, Nat.reduceLeDiff, Nat.reduceSub, Int.reduceToNat, Int.reduceLE, Int.reduceLT, Int.reduceNeg, Int.reduceBEq, Int.reduceBNe, Nat.reduceMul, Int.reduceAdd, Int.reduceMul, Int.reduceSub, Int.reduceEq, Int.reduceNe] <;> simp
  · rintro n ⟨e2, _⟩
    simp (config := { maxSteps := 400000 }) only [go_sem, ↓reduceIte, reduceCtorEq, Nat.reduceEqDiff, Nat.reduceAdd, Nat.reduceLT, Nat.reduceLeDiff, Nat.reduceSub, Int.reduceToNat, Int.reduceLE, Int.reduceLT, Int.reduceNeg, Int.reduceBEq, Int.reduceBNe, Nat.reduceMul, Int.reduceAdd, Int.reduceMul, Int.reduceSub, Int.reduceEq, Int.reduceNe]
    rw [e2]; simp [sumI]
  · rintro done x r n e1 ⟨e2, e3, e4⟩ hx hlt hnx
    obtain ⟨⟨g, first, cap, rfl, hc⟩, e5, e6⟩ := hf _ _ hx
    simp (config := { maxSteps := 400000 }) only [hlt, decide_true, hx, BdLot.pv, go_sem, ↓reduceIte, reduceCtorEq, Nat.reduceEqDiff, Nat.reduceAdd, Nat.reduceLT, Nat.reduceLeDiff, Nat.reduceSub, Int.reduceToNat, Int.reduceLE, Int.reduceLT, Int.reduceNeg, Int.reduceBEq, Int.reduceBNe, Nat.reduceMul, Int.reduceAdd, Int.reduceMul, Int.reduceSub, Int.reduceEq, Int.reduceNe]
    refine WF_pure hc (by simp [BdLot.pv]) ?_
    have hw : IntKind.i64.wrap (n + f done.length x) = n + f done.length x := wrap_in (by omega) (by omega)
    simp (config := { maxSteps := 400000 }) only [hw, go_sem, ↓reduceIte, reduceCtorEq, Nat.reduceEqDiff, Nat.reduceAdd, Nat.reduceLT, Nat.reduceLeDiff, Nat.reduceSub, Int.reduceToNat, Int.reduceLE, Int.reduceLT, Int.reduceNeg, Int.reduceBEq, Int.reduceBNe, Nat.reduceMul, Int.reduceAdd, Int.reduceMul, Int.reduceSub, Int.reduceEq, Int.reduceNe]
    refine WQ_next e1 (n + f done.length x) ⟨by rw [e2, sumI]; simp; omega, by simp; omega, by simp; omega⟩ ?_
    simp (config := { maxSteps := 400000 }) only [hnx, go_sem, ↓reduceIte, reduceCtorEq, Nat.reduceEqDiff, Nat.reduceAdd, Nat.reduceLT, Nat.reduceLeDiff, Nat.reduceSub, Int.reduceToNat, Int.reduceLE, Int.reduceLT, Int.reduceNeg, Int.reduceBEq, Int.reduceBNe, Nat.reduceMul, Int.reduceAdd, Int.reduceMul, Int.reduceSub, Int.reduceEq, Int.reduceNe]

theorem cStrange1 (i n : Int) : PCall Try.prog 94 [.int .i64 i, .int .i64 n] (.int .i64 n) := by
  refine pcall_of_wp draws (fn := Try.f94) (n := 6) (rs := [.tmp 4]) (by kernel_rfl) rfl rfl rfl ok94 (Nat.le_of_ble_eq_true rfl) ?_
  simp (config := { maxSteps := 400000 }) only [go_sem, ↓reduceIte, reduceCtorEq, Nat.reduceEqDiff, Nat.reduceAdd, Nat.reduceLT, Nat.reduceLeDiff, Nat.reduceSub, Int.reduceToNat, Int.reduceLE, Int.reduceLT, Int.reduceNeg, Int.reduceBEq, Int.reduceBNe, Nat.reduceMul, Int.reduceAdd, Int.reduceMul, Int.reduceSub, Int.reduceEq, Int.reduceNe]
theorem cStrange (l : List BdWax) (r : List Int) (b : Bool) (hl : l.length ≤ 5) : PCall Try.prog 72 [bdWaxes l, .slice 1 (r.map intPV) b] (.int .i64 (recErr l.length r)) := by
  refine pcall_of_wp draws (fn := Try.f72) (n := 18) (rs := [.tmp 4]) (by kernel_rfl) rfl rfl rfl ok72 (Nat.le_of_ble_eq_true rfl) ?_
  simp (config := { maxSteps := 400000 }) only [go_sem, ↓reduceIte, reduceCtorEq, Nat.reduceEqDiff, Nat.reduceAdd, Nat.reduceLT, Nat.reduceLeDiff, Nat.reduceSub, Int.reduceToNat, Int.reduceLE, Int.reduceLT, Int.reduceNeg, Int.reduceBEq, Int.reduceBNe, Nat.reduceMul, Int.reduceAdd, Int.reduceMul, Int.reduceSub, Int.reduceEq, Int.reduceNe]
  refine WB_split (fun hb => ?_) (fun hb => ?_)
  · have : ¬ (r.length = l.length) := by simp [bne] at hb; omega
    simp (config := { maxSteps := 400000 }) only [go_sem, ↓reduceIte, reduceCtorEq, Nat.reduceEqDiff, Nat.reduceAdd, Nat.reduceLT, Nat.reduceLeDiff, Nat.reduceSub, Int.reduceToNat, Int.reduceLE, Int.reduceLT, Int.reduceNeg, Int.reduceBEq, Int.reduceBNe, Nat.reduceMul, Int.reduceAdd, Int.reduceMul, Int.reduceSub, Int.reduceEq, Int.reduceNe]
    simp [recErr, this]
  have hlen : r.length = l.length := by simp [bne] at hb; omega
  simp (config := { maxSteps := 400000 }) only [go_sem, ↓reduceIte, reduceCtorEq, Nat.reduceEqDiff, Nat.reduceAdd, Nat.reduceLT, Nat.reduceLeDiff, Nat.reduceSub, Int.reduceToNat, Int.reduceLE, Int.reduceLT, Int.reduceNeg, Int.reduceBEq, Int.reduceBNe, Nat.reduceMul, Int.reduceAdd, Int.reduceMul, Int.reduceSub, Int.reduceEq, Int.reduceNe]
  refine WF_pure (cBdOut 0 20 r b (by omega)) rfl ?_
  simp (config := { maxSteps := 400000 }) only [go_sem, ↓reduceIte, reduceCtorEq, Nat.reduceEqDiff, Nat.reduceAdd, Nat.reduceLT, Nat.reduceLeDiff, Nat.reduceSub, Int.reduceToNat, Int.reduceLE, Int.reduceLT, Int.reduceNeg, Int.reduceBEq, Int.reduceBNe, Nat.reduceMul, Int.reduceAdd, Int.reduceMul, Int.reduceSub, Int.reduceEq, Int.reduceNe]
  refine WB_split (fun ha => ?_) (fun ha => ?_) <;> simp (config := { maxSteps := 400000 }) only [ha, go_sem, ↓reduceIte, reduceCtorEq, Nat.reduceEqDiff, Nat.reduceAdd, Nat.reduceLT, Nat.reduceLeDiff, Nat.reduceSub, Int.reduceToNat, Int.reduceLE, Int.reduceLT, Int.reduceNeg, Int.reduceBEq, Int.reduceBNe, Nat.reduceMul, Int.reduceAdd, Int.reduceMul, Int.reduceSub, Int.reduceEq, Int.reduceNe]
  · simp [recErr, hlen, ha]
  have hr : ∀ n, n ∈ r → 0 ≤ n ∧ n ≤ 20 := fun n hn => by
    simp [gIn] at ha
    have := ha n hn
    omega
  refine WF_pure (cBdSum0 (fv := .func (.func 94) [] []) r (fun _ n => n) b 1 rfl (by omega) fun i n hi => ⟨⟨_, _, _, rfl, cStrange1 i n⟩, ?_⟩) rfl ?_
  · have := hr n (List.mem_of_getElem? hi); omega
  have hsum : sumI (fun _ n => n) r 0 = r.sum := by rw [sumI_eq (fun n => n)]; simp
  simp (config := { maxSteps := 400000 }) only [hsum, go_sem, ↓reduceIte, reduceCtorEq, Nat.reduceEqDiff, Nat.reduceAdd, Nat.reduceLT, Nat.reduceLeDiff, Nat.reduceSub, Int.reduceToNat, Int.reduceLE, Int.reduceLT, Int.reduceNeg, Int.reduceBEq, Int.reduceBNe, Nat.reduceMul, Int.reduceAdd, Int.reduceMul, Int.reduceSub, Int.reduceEq, Int.reduceNe]
  refine WB_split (fun hs => ?_) (fun hs => ?_) <;> simp (config := { maxSteps := 400000 }) only [hs, go_sem, ↓reduceIte, reduceCtorEq, Nat.reduceEqDiff, Nat.reduceAdd, Nat.reduceLT, Nat.reduceLeDiff, Nat.reduceSub, Int.reduceToNat, Int.reduceLE, Int.reduceLT, Int.reduceNeg, Int.reduceBEq, Int.reduceBNe, Nat.reduceMul, Int.reduceAdd, Int.reduceMul, Int.reduceSub, Int.reduceEq, Int.reduceNe]
  · have : ¬ r.sum = 20 := by simpa [bne] using hs
    simp [recErr, hlen, ha, this]
  · have : r.sum = 20 := by simpa [bne] using hs
    simp [recErr, hlen, ha, this]
theorem cRefRecipe (m : Nat) (r : List Int) (b : Bool) (hm : m ≤ 5) : PCall Try.prog 43 [.int .i64 m, .slice 1 (r.map intPV) b] (.int .i64 (recErr m r)) := by
  refine pcall_of_wp draws (fn := Try.f43) (n := 30) (rs := [.tmp 4]) (by kernel_rfl) rfl rfl rfl ok43 (Nat.le_of_ble_eq_true rfl) ?_
  simp (config := { maxSteps := 400000 }) only [go_sem, ↓reduceIte, reduceCtorEq, Nat.reduceEqDiff, Nat.reduceAdd, Nat.reduceLT, Nat.reduceLeDiff, Nat.reduceSub, Int.reduceToNat, Int.reduceLE, Int.reduceLT, Int.reduceNeg, Int.reduceBEq, Int.reduceBNe, Nat.reduceMul, Int.reduceAdd, Int.reduceMul, Int.reduceSub, Int.reduceEq, Int.reduceNe]
  refine WB_split (fun hb => ?_) (fun hb => ?_) <;> simp (config := { maxSteps := 400000 }) only [hb, go_sem, ↓reduceIte, reduceCtorEq, Nat.reduceEqDiff, Nat.reduceAdd, Nat.reduceLT, Nat.reduceLeDiff, Nat.reduceSub, Int.reduceToNat, Int.reduceLE, Int.reduceLT, Int.reduceNeg, Int.reduceBEq, Int.reduceBNe, Nat.reduceMul, Int.reduceAdd, Int.reduceMul, Int.reduceSub, Int.reduceEq, Int.reduceNe]
  · have : ¬ (r.length = m) := by simp [bne] at hb; omega
    simp [recErr, this]
  have hlen : r.length = m := by simp [bne] at hb; omega
  subst hlen
  refine W_rangeH [0, 1] r (by omega) (τ := Int) (fun done rest n => (∀ k, k ∈ done → 0 ≤ k ∧ k ≤ 20) ∧ r.sum = n + rest.sum ∧ 0 ≤ n ∧ n ≤ 20 * (done.length : Int)) (fun done n => [(6, .p (.int .i64 done.length)), (5, .p (.int .i64 n))]) 0 ⟨by simp, by simp, by simp, by simp⟩ ?_ ?_ ?_
  · simp (config := { maxSteps := 400000 }) only [go_sem, ↓reduceIte, reduceCtorEq, Nat.reduceEqDiff, Nat.reduceAdd, Nat.reduceLT, Nat.reduceLeDiff, Nat.reduceSub, Int.reduceToNat, Int.reduceLE, Int.reduceLT, Int.reduceNeg, Int.reduceBEq, Int.reduceBNe, Nat.reduceMul, Int.reduceAdd, Int.reduceMul, Int.reduceSub, Int.reduceEq, Int.reduceNe] <;> simp
  · rintro n ⟨h1, h2, _⟩
    have ha : (r.any fun n => !gIn n 0 20) = false := by simp [gIn]; exact h1
    simp at h2
    simp (config := { maxSteps := 400000 }) only [go_sem, ↓reduceIte, reduceCtorEq, Nat.reduceEqDiff, Nat.reduceAdd, Nat.reduceLT, Nat.reduceLeDiff, Nat.reduceSub, Int.reduceToNat, Int.reduceLE, Int.reduceLT, Int.reduceNeg, Int.reduceBEq, Int.reduceBNe, Nat.reduceMul, Int.reduceAdd, Int.reduceMul, Int.reduceSub, Int.reduceEq, Int.reduceNe]
    refine WB_split (fun hs => ?_) (fun hs => ?_) <;> simp (config := { maxSteps := 400000 }) only [hs, go_sem, ↓reduceIte, reduceCtorEq, Nat.reduceEqDiff, Nat.reduceAdd, Nat.reduceLT, Nat.reduceLeDiff, Nat.reduceSub, Int.reduceToNat, Int.reduceLE, Int.reduceLT, Int.reduceNeg, Int.reduceBEq, Int.reduceBNe, Nat.reduceMul, Int.reduceAdd, Int.reduceMul, Int.reduceSub, Int.reduceEq, Int.reduceNe]
    · have : ¬ r.sum = 20 := by simpa [bne, h2] using hs
      simp [recErr, ha, this]
    · have : r.sum = 20 := by simpa [bne, h2] using hs
      simp [recErr, ha, this]
  · rintro done x rr n e1 ⟨h1, h2, h3, h4⟩ hx hlt hnx
    have hdl : done.length < 5 := by omega
    simp (config := { maxSteps := 400000 }) only [hlt, hx, go_sem, ↓reduceIte, reduceCtorEq, Nat.reduceEqDiff, Nat.reduceAdd, Nat.reduceLT, Nat.reduceLeDiff, Nat.reduceSub, Int.reduceToNat, Int.reduceLE, Int.reduceLT, Int.reduceNeg, Int.reduceBEq, Int.reduceBNe, Nat.reduceMul, Int.reduceAdd, Int.reduceMul, Int.reduceSub, Int.reduceEq, Int.reduceNe]
    refine WF_pure (cIn1 _ _ _) rfl ?_
    simp (config := { maxSteps := 400000 }) only [go_sem, ↓reduceIte, reduceCtorEq, Nat.reduceEqDiff, Nat.reduceAdd, Nat.reduceLT, Nat.reduceLeDiff, Nat.reduceSub, Int.reduceToNat, Int.reduceLE, Int.reduceLT, Int.reduceNeg, Int.reduceBEq, Int.reduceBNe, Nat.reduceMul, Int.reduceAdd, Int.reduceMul, Int.reduceSub, Int.reduceEq, Int.reduceNe]
    cases hg : gIn x 0 20
    · simp (config := { maxSteps := 400000 }) only [go_sem, ↓reduceIte, reduceCtorEq, Nat.reduceEqDiff, Nat.reduceAdd, Nat.reduceLT, Nat.reduceLeDiff, Nat.reduceSub, Int.reduceToNat, Int.reduceLE, Int.reduceLT, Int.reduceNeg, Int.reduceBEq, Int.reduceBNe, Nat.reduceMul, Int.reduceAdd, Int.reduceMul, Int.reduceSub, Int.reduceEq, Int.reduceNe]
      have ha : (r.any fun n => !gIn n 0 20) = true := by rw [e1]; simp [hg]
      simp [recErr, ha]
    · have hx2 : 0 ≤ x ∧ x ≤ 20 := by simp [gIn] at hg; omega
      have hw : IntKind.i64.wrap (n + x) = n + x := wrap_in (by omega) (by omega)
      simp (config := { maxSteps := 400000 }) only [hlt, hx, hw, go_sem, ↓reduceIte, reduceCtorEq, Nat.reduceEqDiff, Nat.reduceAdd, Nat.reduceLT, Nat.reduceLeDiff, Nat.reduceSub, Int.reduceToNat, Int.reduceLE, Int.reduceLT, Int.reduceNeg, Int.reduceBEq, Int.reduceBNe, Nat.reduceMul, Int.reduceAdd, Int.reduceMul, Int.reduceSub, Int.reduceEq, Int.reduceNe]
      refine WQ_next e1 (n + x) ⟨fun k hk => ?_, by rw [h2]; simp; omega, by omega, by simp; omega⟩ ?_
      · rcases List.mem_append.1 hk with hk | hk
        · exact h1 k hk
        · simp at hk; subst hk; exact hx2
      · simp (config := { maxSteps := 400000 }) only [hnx, go_sem, ↓reduceIte, reduceCtorEq, Nat.reduceEqDiff, Nat.reduceAdd, Nat.reduceLT, Nat.reduceLeDiff, Nat.reduceSub, Int.reduceToNat, Int.reduceLE, Int.reduceLT, Int.reduceNeg, Int.reduceBEq, Int.reduceBNe, Nat.reduceMul, Int.reduceAdd, Int.reduceMul, Int.reduceSub, Int.reduceEq, Int.reduceNe]
def bdAsked (l : List BdWax) (r : List Int) : Int := if bdE l = 0 then recErr l.length r else bdE l
theorem cAsked (l : List BdWax) (r : List Int) (b : Bool) : PCall Try.prog 59 [bdWaxes l, .slice 1 (r.map intPV) b] (.int .i64 (bdAsked l r)) := by
  refine pcall_of_wp draws (fn := Try.f59) (n := 20) (rs := [.tmp 4]) (by kernel_rfl) rfl rfl rfl ok59 (Nat.le_of_ble_eq_true rfl) ?_
  simp (config := { maxSteps := 400000 }) only [go_sem, ↓reduceIte, reduceCtorEq, Nat.reduceEqDiff, Nat.reduceAdd, Nat.reduceLT, Nat.reduceLeDiff, Nat.reduceSub, Int.reduceToNat, Int.reduceLE, Int.reduceLT, Int.reduceNeg, Int.reduceBEq, Int.reduceBNe, Nat.reduceMul, Int.reduceAdd, Int.reduceMul, Int.reduceSub, Int.reduceEq, Int.reduceNe]
  refine WF_pure (cBdCheck l) rfl ?_
  simp (config := { maxSteps := 400000 }) only [triple, go_sem, ↓reduceIte, reduceCtorEq, Nat.reduceEqDiff, Nat.reduceAdd, Nat.reduceLT, Nat.reduceLeDiff, Nat.reduceSub, Int.reduceToNat, Int.reduceLE, Int.reduceLT, Int.reduceNeg, Int.reduceBEq, Int.reduceBNe, Nat.reduceMul, Int.reduceAdd, Int.reduceMul, Int.reduceSub, Int.reduceEq, Int.reduceNe]
  cases he : ((bdCheck l).2.2 != 0)
  · have he' : bdE l = 0 := by simpa [bdE] using he
    simp (config := { maxSteps := 400000 }) only [go_sem, ↓reduceIte, reduceCtorEq, Nat.reduceEqDiff, Nat.reduceAdd, Nat.reduceLT, Nat.reduceLeDiff, Nat.reduceSub, Int.reduceToNat, Int.reduceLE, Int.reduceLT, Int.reduceNeg, Int.reduceBEq, Int.reduceBNe, Nat.reduceMul, Int.reduceAdd, Int.reduceMul, Int.reduceSub, Int.reduceEq, Int.reduceNe]
    refine WF_pure (cStrange l r b (bdWaxesOk_of he').len.2) rfl ?_
    simp (config := { maxSteps := 400000 }) only [bdAsked, if_pos he', go_sem, ↓reduceIte, reduceCtorEq, Nat.reduceEqDiff, Nat.reduceAdd, Nat.reduceLT, Nat.reduceLeDiff, Nat.reduceSub, Int.reduceToNat, Int.reduceLE, Int.reduceLT, Int.reduceNeg, Int.reduceBEq, Int.reduceBNe, Nat.reduceMul, Int.reduceAdd, Int.reduceMul, Int.reduceSub, Int.reduceEq, Int.reduceNe]
  · have he' : ¬ bdE l = 0 := by simpa [bdE] using he
    simp (config := { maxSteps := 400000 }) only [bdAsked, if_neg he', go_sem, ↓reduceIte, reduceCtorEq, Nat.reduceEqDiff, Nat.reduceAdd, Nat.reduceLT, Nat.reduceLeDiff, Nat.reduceSub, Int.reduceToNat, Int.reduceLE, Int.reduceLT, Int.reduceNeg, Int.reduceBEq, Int.reduceBNe, Nat.reduceMul, Int.reduceAdd, Int.reduceMul, Int.reduceSub, Int.reduceEq, Int.reduceNe]
    rfl
theorem cRefBdAsked (l : List BdWax) (r : List Int) (b : Bool) : PCall Try.prog 64 [bdWaxes l, .slice 1 (r.map intPV) b] (.int .i64 (bdAsked l r)) := by
  refine pcall_of_wp draws (fn := Try.f64) (n := 21) (rs := [.tmp 4]) (by kernel_rfl) rfl rfl rfl ok64 (Nat.le_of_ble_eq_true rfl) ?_
  simp (config := { maxSteps := 400000 }) only [go_sem, ↓reduceIte, reduceCtorEq, Nat.reduceEqDiff, Nat.reduceAdd, Nat.reduceLT, Nat.reduceLeDiff, Nat.reduceSub, Int.reduceToNat, Int.reduceLE, Int.reduceLT, Int.reduceNeg, Int.reduceBEq, Int.reduceBNe, Nat.reduceMul, Int.reduceAdd, Int.reduceMul, Int.reduceSub, Int.reduceEq, Int.reduceNe]
  refine WF_pure (cRefBdCheck l) rfl ?_
  simp (config := { maxSteps := 400000 }) only [triple, go_sem, ↓reduceIte, reduceCtorEq, Nat.reduceEqDiff, Nat.reduceAdd, Nat.reduceLT, Nat.reduceLeDiff, Nat.reduceSub, Int.reduceToNat, Int.reduceLE, Int.reduceLT, Int.reduceNeg, Int.reduceBEq, Int.reduceBNe, Nat.reduceMul, Int.reduceAdd, Int.reduceMul, Int.reduceSub, Int.reduceEq, Int.reduceNe]
  cases he : ((bdCheck l).2.2 == 0)
  · have he' : ¬ bdE l = 0 := by simpa [bdE] using he
    simp (config := { maxSteps := 400000 }) only [bdAsked, if_neg he', go_sem, ↓reduceIte, reduceCtorEq, Nat.reduceEqDiff, Nat.reduceAdd, Nat.reduceLT, Nat.reduceLeDiff, Nat.reduceSub, Int.reduceToNat, Int.reduceLE, Int.reduceLT, Int.reduceNeg, Int.reduceBEq, Int.reduceBNe, Nat.reduceMul, Int.reduceAdd, Int.reduceMul, Int.reduceSub, Int.reduceEq, Int.reduceNe]
    rfl
  · have he' : bdE l = 0 := by simpa [bdE] using he
    simp (config := { maxSteps := 400000 }) only [go_sem, ↓reduceIte, reduceCtorEq, Nat.reduceEqDiff, Nat.reduceAdd, Nat.reduceLT, Nat.reduceLeDiff, Nat.reduceSub, Int.reduceToNat, Int.reduceLE, Int.reduceLT, Int.reduceNeg, Int.reduceBEq, Int.reduceBNe, Nat.reduceMul, Int.reduceAdd, Int.reduceMul, Int.reduceSub, Int.reduceEq, Int.reduceNe]
    refine WF_pure (cRefRecipe l.length r b (bdWaxesOk_of he').len.2) rfl ?_
    simp (config := { maxSteps := 400000 }) only [bdAsked, if_pos he', go_sem, ↓reduceIte, reduceCtorEq, Nat.reduceEqDiff, Nat.reduceAdd, Nat.reduceLT, Nat.reduceLeDiff, Nat.reduceSub, Int.reduceToNat, Int.reduceLE, Int.reduceLT, Int.reduceNeg, Int.reduceBEq, Int.reduceBNe, Nat.reduceMul, Int.reduceAdd, Int.reduceMul, Int.reduceSub, Int.reduceEq, Int.reduceNe]

/-! what waxes give -/
abbrev Ps := List (BdWax × Int)
structure PsOk (ps : Ps) : Prop where
  len : ps.length ≤ 5
  wax : ∀ p, p ∈ ps → BdWaxOk p.1 ∧ 0 ≤ p.2 ∧ p.2 ≤ 20
def sumP (f : BdWax × Int → Int) (ps : Ps) : Int := (ps.map f).sum
def fSoft (p : BdWax × Int) : Int := p.2 * p.1.melt.lo
def fHard (p : BdWax × Int) : Int := p.2 * p.1.melt.hi
def fLeast (p : BdWax × Int) : Int := p.2 * p.1.shrink.lo
def fMost (p : BdWax × Int) : Int := p.2 * p.1.shrink.hi
def fPrice (p : BdWax × Int) : Int := p.2 * p.1.price
def fRaise (p : BdWax × Int) : Int := 20 * addS p.1.curve p.2
theorem addGo_bd (n : Int) : ∀ (r : List BdPoint) (a : BdPoint), (0 ≤ a.parts ∧ a.parts ≤ 20 ∧ -300 ≤ a.add ∧ a.add ≤ 300) → (∀ p, p ∈ r → 0 ≤ p.parts ∧ p.parts ≤ 20 ∧ -300 ≤ p.add ∧ p.add ≤ 300) → a.parts ≤ n → (a :: r).Pairwise (fun a b => a.parts < b.parts) → -300 ≤ addGo a r n ∧ addGo a r n ≤ 300
  | [], a, ha, _, _, _ => by rw [addGo]; omega
  | b :: r, a, ha, hr, hn, hp => by
    rw [addGo]
    have hab : a.parts < b.parts := by cases hp with | cons h _ => exact h b (by simp)
    split
    · rename_i h
      obtain ⟨_, _, h3, h4⟩ := line_bd ha (hr b (by simp)) hn h hab
      have hb := hr b (by simp)
      rcases Int.le_total a.add b.add with h5 | h5
      · have := h3 h5; omega
      · have := h4 h5; omega
    · rename_i h
      exact addGo_bd n r b (hr b (by simp)) (fun p hp => hr p (by simp [hp])) (by omega) (by cases hp with | cons _ h => exact h)
theorem addS_bd {c : List BdPoint} (h : CurveOk c) (n : Int) : -300 ≤ addS c n ∧ addS c n ≤ 300 := by
  cases c with
  | nil => simp [addS]
  | cons a r =>
    have ha := h.pt a (by simp)
    rw [addS]
    split
    · omega
    · exact addGo_bd n r a ha (fun p hp => h.pt p (by simp [hp])) (by omega) h.up
/-- all of it is small -/
theorem parts_bd {p : BdWax × Int} (h : BdWaxOk p.1 ∧ 0 ≤ p.2 ∧ p.2 ≤ 20) : (0 ≤ fSoft p ∧ fSoft p ≤ 40000) ∧ (0 ≤ fHard p ∧ fHard p ≤ 40000) ∧ (0 ≤ fLeast p ∧ fLeast p ≤ 20000) ∧ (0 ≤ fMost p ∧ fMost p ≤ 20000) ∧ (0 ≤ fPrice p ∧ fPrice p ≤ 2000000) ∧ -6000 ≤ fRaise p ∧ fRaise p ≤ 6000 := by
  obtain ⟨hw, h0, h1⟩ := h
  have m1 := hw.melt
  have m2 := hw.shrink
  have m3 := hw.price
  have m4 := addS_bd hw.curve p.2
  refine ⟨mul_bd (B := 2000) h0 h1 (by omega) (by omega), mul_bd (B := 2000) h0 h1 (by omega) (by omega), mul_bd (B := 1000) h0 h1 (by omega) (by omega), mul_bd (B := 1000) h0 h1 (by omega) (by omega), mul_bd (B := 100000) h0 h1 (by omega) (by omega), ?_⟩
  unfold fRaise
  omega
theorem sumP_bd {f : BdWax × Int → Int} {a b : Int} : ∀ {ps : Ps}, (∀ p, p ∈ ps → a ≤ f p ∧ f p ≤ b) → a * (ps.length : Int) ≤ sumP f ps ∧ sumP f ps ≤ b * (ps.length : Int)
  | [], _ => by simp [sumP]
  | p :: ps, h => by
    have h1 := sumP_bd (f := f) (ps := ps) fun q hq => h q (by simp [hq])
    have h2 := h p (by simp)
    simp only [sumP, List.map_cons, List.sum_cons, List.length_cons] at h1 ⊢
    have e1 : a * ((ps.length + 1 : Nat) : Int) = a * (ps.length : Int) + a := by rw [Int.natCast_add, Int.mul_add]; simp
    have e2 : b * ((ps.length + 1 : Nat) : Int) = b * (ps.length : Int) + b := by rw [Int.natCast_add, Int.mul_add]; simp
    omega
theorem sumP_five {f : BdWax × Int → Int} {b : Int} {ps : Ps} (hl : ps.length ≤ 5) (hb : 0 ≤ b) (h : ∀ p, p ∈ ps → -b ≤ f p ∧ f p ≤ b) : -(5 * b) ≤ sumP f ps ∧ sumP f ps ≤ 5 * b := by
  obtain ⟨h1, h2⟩ := sumP_bd h
  have : b * (ps.length : Int) ≤ b * 5 := Int.mul_le_mul_of_nonneg_left (by omega) hb
  have e : (-b) * (ps.length : Int) = -(b * (ps.length : Int)) := Int.neg_mul _ _
  omega

theorem cPart_softest (p : BdWax × Int) (h : BdWaxOk p.1 ∧ 0 ≤ p.2 ∧ p.2 ≤ 20) : PCall Try.prog 87 [partPV p] (.int .i64 (fSoft p)) := by
  refine pcall_of_wp draws (fn := Try.f87) (n := 10) (rs := [.tmp 2]) (by kernel_rfl) rfl rfl rfl ok87 (Nat.le_of_ble_eq_true rfl) ?_
  have hb := parts_bd h
  have hw : IntKind.i64.wrap (fSoft p) = fSoft p := wrap_in (by omega) (by omega)
  unfold fSoft at hw ⊢
  simp (config := { maxSteps := 400000 }) only [hw, go_sem, ↓reduceIte, reduceCtorEq, Nat.reduceEqDiff, Nat.reduceAdd, Nat.reduceLT, Nat.reduceLeDiff, Nat.reduceSub, Int.reduceToNat, Int.reduceLE, Int.reduceLT, Int.reduceNeg, Int.reduceBEq, Int.reduceBNe, Nat.reduceMul, Int.reduceAdd, Int.reduceMul, Int.reduceSub, Int.reduceEq, Int.reduceNe]
theorem cPart_hardest (p : BdWax × Int) (h : BdWaxOk p.1 ∧ 0 ≤ p.2 ∧ p.2 ≤ 20) : PCall Try.prog 88 [partPV p] (.int .i64 (fHard p)) := by
  refine pcall_of_wp draws (fn := Try.f88) (n := 10) (rs := [.tmp 2]) (by kernel_rfl) rfl rfl rfl ok88 (Nat.le_of_ble_eq_true rfl) ?_
  have hb := parts_bd h
  have hw : IntKind.i64.wrap (fHard p) = fHard p := wrap_in (by omega) (by omega)
  unfold fHard at hw ⊢
  simp (config := { maxSteps := 400000 }) only [hw, go_sem, ↓reduceIte, reduceCtorEq, Nat.reduceEqDiff, Nat.reduceAdd, Nat.reduceLT, Nat.reduceLeDiff, Nat.reduceSub, Int.reduceToNat, Int.reduceLE, Int.reduceLT, Int.reduceNeg, Int.reduceBEq, Int.reduceBNe, Nat.reduceMul, Int.reduceAdd, Int.reduceMul, Int.reduceSub, Int.reduceEq, Int.reduceNe]
theorem cPart_least (p : BdWax × Int) (h : BdWaxOk p.1 ∧ 0 ≤ p.2 ∧ p.2 ≤ 20) : PCall Try.prog 89 [partPV p] (.int .i64 (fLeast p)) := by
  refine pcall_of_wp draws (fn := Try.f89) (n := 10) (rs := [.tmp 2]) (by kernel_rfl) rfl rfl rfl ok89 (Nat.le_of_ble_eq_true rfl) ?_
  have hb := parts_bd h
  have hw : IntKind.i64.wrap (fLeast p) = fLeast p := wrap_in (by omega) (by omega)
  unfold fLeast at hw ⊢
  simp (config := { maxSteps := 400000 }) only [hw, go_sem, ↓reduceIte, reduceCtorEq, Nat.reduceEqDiff, Nat.reduceAdd, Nat.reduceLT, Nat.reduceLeDiff, Nat.reduceSub, Int.reduceToNat, Int.reduceLE, Int.reduceLT, Int.reduceNeg, Int.reduceBEq, Int.reduceBNe, Nat.reduceMul, Int.reduceAdd, Int.reduceMul, Int.reduceSub, Int.reduceEq, Int.reduceNe]
theorem cPart_most (p : BdWax × Int) (h : BdWaxOk p.1 ∧ 0 ≤ p.2 ∧ p.2 ≤ 20) : PCall Try.prog 90 [partPV p] (.int .i64 (fMost p)) := by
  refine pcall_of_wp draws (fn := Try.f90) (n := 10) (rs := [.tmp 2]) (by kernel_rfl) rfl rfl rfl ok90 (Nat.le_of_ble_eq_true rfl) ?_
  have hb := parts_bd h
  have hw : IntKind.i64.wrap (fMost p) = fMost p := wrap_in (by omega) (by omega)
  unfold fMost at hw ⊢
  simp (config := { maxSteps := 400000 }) only [hw, go_sem, ↓reduceIte, reduceCtorEq, Nat.reduceEqDiff, Nat.reduceAdd, Nat.reduceLT, Nat.reduceLeDiff, Nat.reduceSub, Int.reduceToNat, Int.reduceLE, Int.reduceLT, Int.reduceNeg, Int.reduceBEq, Int.reduceBNe, Nat.reduceMul, Int.reduceAdd, Int.reduceMul, Int.reduceSub, Int.reduceEq, Int.reduceNe]
theorem cPart_price (p : BdWax × Int) (h : BdWaxOk p.1 ∧ 0 ≤ p.2 ∧ p.2 ≤ 20) : PCall Try.prog 63 [partPV p] (.int .i64 (fPrice p)) := by
  refine pcall_of_wp draws (fn := Try.f63) (n := 9) (rs := [.tmp 2]) (by kernel_rfl) rfl rfl rfl ok63 (Nat.le_of_ble_eq_true rfl) ?_
  have hb := parts_bd h
  have hw : IntKind.i64.wrap (fPrice p) = fPrice p := wrap_in (by omega) (by omega)
  unfold fPrice at hw ⊢
  simp (config := { maxSteps := 400000 }) only [hw, go_sem, ↓reduceIte, reduceCtorEq, Nat.reduceEqDiff, Nat.reduceAdd, Nat.reduceLT, Nat.reduceLeDiff, Nat.reduceSub, Int.reduceToNat, Int.reduceLE, Int.reduceLT, Int.reduceNeg, Int.reduceBEq, Int.reduceBNe, Nat.reduceMul, Int.reduceAdd, Int.reduceMul, Int.reduceSub, Int.reduceEq, Int.reduceNe]
theorem cPart_raise (p : BdWax × Int) (h : BdWaxOk p.1 ∧ 0 ≤ p.2 ∧ p.2 ≤ 20) : PCall Try.prog 66 [partPV p] (.int .i64 (fRaise p)) := by
  refine pcall_of_wp draws (fn := Try.f66) (n := 11) (rs := [.tmp 2]) (by kernel_rfl) rfl rfl rfl ok66 (Nat.le_of_ble_eq_true rfl) ?_
  have hb := parts_bd h
  have hw : IntKind.i64.wrap (fRaise p) = fRaise p := wrap_in (by omega) (by omega)
  unfold fRaise at hw ⊢
  simp (config := { maxSteps := 400000 }) only [go_sem, ↓reduceIte, reduceCtorEq, Nat.reduceEqDiff, Nat.reduceAdd, Nat.reduceLT, Nat.reduceLeDiff, Nat.reduceSub, Int.reduceToNat, Int.reduceLE, Int.reduceLT, Int.reduceNeg, Int.reduceBEq, Int.reduceBNe, Nat.reduceMul, Int.reduceAdd, Int.reduceMul, Int.reduceSub, Int.reduceEq, Int.reduceNe]
  refine WF_pure (cBdAdd p.1.curve false p.2 h.1.curve) rfl ?_
  simp (config := { maxSteps := 400000 }) only [hw, go_sem, ↓reduceIte, reduceCtorEq, Nat.reduceEqDiff, Nat.reduceAdd, Nat.reduceLT, Nat.reduceLeDiff, Nat.reduceSub, Int.reduceToNat, Int.reduceLE, Int.reduceLT, Int.reduceNeg, Int.reduceBEq, Int.reduceBNe, Nat.reduceMul, Int.reduceAdd, Int.reduceMul, Int.reduceSub, Int.reduceEq, Int.reduceNe]

def partZ : AV := .p (.agg [.str ⟨#[]⟩, .int .i64 0, .int .i64 0, .int .i64 0, .int .i64 0, .int .i64 0, .nilslice, .int .i64 0])
def blRow (ps done : Ps) : List AV := (done.map fun p => .p (partPV p)) ++ List.replicate (ps.length - done.length) partZ
theorem blRow_len {ps done r : Ps} {x : BdWax × Int} (h : ps = done ++ x :: r) : (blRow ps done).length = ps.length := by subst h; simp [blRow]
theorem blRow_get {ps done r : Ps} {x : BdWax × Int} (h : ps = done ++ x :: r) : (blRow ps done)[done.length]? = some partZ := by
  subst h
  unfold blRow
  rw [List.getElem?_append_right (by simp)]
  simp
theorem blRow_set {ps done r : Ps} {x : BdWax × Int} (h : ps = done ++ x :: r) : (blRow ps done).set done.length (.p (partPV x)) = blRow ps (done ++ [x]) := by
  subst h
  have e : (done ++ x :: r).length - done.length = ((done ++ x :: r).length - (done ++ [x]).length) + 1 := by simp <;> omega
  unfold blRow
  rw [List.set_append_right _ _ (by simp), e, List.replicate_succ]
  simp
theorem blRow_below (n : Nat) (ps done : Ps) : (∀ x, x ∈ blRow ps done → below n x) = True := by
  refine eq_true fun x hx => ?_
  rcases List.mem_append.1 hx with h | h
  · obtain ⟨p, _, rfl⟩ := List.mem_map.1 h; trivial
  · rw [List.eq_of_mem_replicate h]; trivial
def bdParts (ps : Ps) : PV := .slice 8 (ps.map partPV) false
attribute [go_sem] bdParts
theorem cBlend (ps : Ps) (b1 b2 : Bool) (hl : ps.length ≤ 5) : PCall Try.prog 61 [.slice 7 (ps.map fun p => p.1.pv) b1, .slice 1 (ps.map fun p => intPV p.2) b2] (bdParts ps) := by
  refine pcall_of_wp_frz draws (fn := Try.f61) (n := 29) (rs := [.tmp 4]) (by kernel_rfl) rfl rfl rfl ok61 (Nat.le_of_ble_eq_true rfl) ?_
  have hrm : ((ps.length : Nat) : Int) ≤ (room : Int) := by simp [room]; omega
  have hr0 : List.replicate ps.length partZ = blRow ps [] := by simp [blRow]
  simp only [partZ] at hr0
  simp (config := { maxSteps := 400000 }) only [hrm, Int.le_refl, hr0, go_sem, ↓reduceIte, reduceCtorEq, Nat.reduceEqDiff, Nat.reduceAdd, Nat.reduceLT, Nat.reduceLeDiff, Nat.reduceSub, Int.reduceToNat, Int.reduceLE, Int.reduceLT, Int.reduceNeg, Int.reduceBEq, Int.reduceBNe, Nat.reduceMul, Int.reduceAdd, Int.reduceMul, Int.reduceSub, Int.reduceEq, Int.reduceNe]
  refine W_rangeA [1, 5, 11, 12] ps (by omega) (τ := Unit) (fun _ _ _ => True) (fun done _ => [(13, .p (.int .i64 done.length))]) (fun done _ => [.row 8 (blRow ps done)]) () trivial ?_ ?_ ?_
  · simp (config := { maxSteps := 400000 }) only [blRow_below, go_sem, ↓reduceIte, reduceCtorEq, Nat.reduceEqDiff, Nat.reduceAdd, Nat.reduceLT, Nat.reduceLeDiff, Nat.reduceSub, Int.reduceToNat, Int.reduceLE, Int.reduceLT, Int.reduceNeg, Int.reduceBEq, Int.reduceBNe, Nat.reduceMul, Int.reduceAdd, Int.reduceMul, Int.reduceSub, Int.reduceEq, Int.reduceNe]
  · intro _ _
    have hz : (blRow ps ps) = ps.map fun p => .p (partPV p) := by simp [blRow]
    simp only [partPV] at hz
    simp (config := { maxSteps := 400000 }) only [hz, go_sem, ↓reduceIte, reduceCtorEq, Nat.reduceEqDiff, Nat.reduceAdd, Nat.reduceLT, Nat.reduceLeDiff, Nat.reduceSub, Int.reduceToNat, Int.reduceLE, Int.reduceLT, Int.reduceNeg, Int.reduceBEq, Int.reduceBNe, Nat.reduceMul, Int.reduceAdd, Int.reduceMul, Int.reduceSub, Int.reduceEq, Int.reduceNe]
    rfl
  · intro done x r _ e1 _ hx hlt hnx
    have h1 := blRow_len e1
    have h2 := blRow_get e1
    have h3 := blRow_set e1
    simp only [partZ] at h2
    simp only [partPV] at h3
    simp (config := { maxSteps := 400000 }) only [hlt, hx, h1, h2, h3, go_sem, ↓reduceIte, reduceCtorEq, Nat.reduceEqDiff, Nat.reduceAdd, Nat.reduceLT, Nat.reduceLeDiff, Nat.reduceSub, Int.reduceToNat, Int.reduceLE, Int.reduceLT, Int.reduceNeg, Int.reduceBEq, Int.reduceBNe, Nat.reduceMul, Int.reduceAdd, Int.reduceMul, Int.reduceSub, Int.reduceEq, Int.reduceNe]
    refine WQ_next e1 () trivial ?_
    simp (config := { maxSteps := 400000 }) only [hnx, h3, blRow_below, go_sem, ↓reduceIte, reduceCtorEq, Nat.reduceEqDiff, Nat.reduceAdd, Nat.reduceLT, Nat.reduceLeDiff, Nat.reduceSub, Int.reduceToNat, Int.reduceLE, Int.reduceLT, Int.reduceNeg, Int.reduceBEq, Int.reduceBNe, Nat.reduceMul, Int.reduceAdd, Int.reduceMul, Int.reduceSub, Int.reduceEq, Int.reduceNe]
end Abs
end Go.Proofs.Ythekmbikolpmlaa
