/-
  CONTRACTS: the thinnest wick that suits.
-/
import Derived.Test.YtdgmmijimclooaaWkSut
namespace Go.Proofs.Ytdgmmijimclooaa
namespace Abs
set_option linter.unusedSimpArgs false
set_option maxRecDepth 4000

def thr (s : Shop) (n : Int) : Int := match s.wicks[n.toNat]? with | some w => w.threads | none => 0
def bestGo (s : Shop) : List Int → Int → Int
  | [], b => b
  | n :: r, b => bestGo s r (if (decide (b < 0) || decide (thr s n < thr s b)) = true then n else b)
def valid (s : Shop) (n : Int) : Prop := 0 ≤ n ∧ n < (s.wicks.length : Int)
theorem suits_valid (s : Shop) (c : Candle) (x : Wax) : ∀ (l : List Wick) (i : Nat), i + l.length = s.wicks.length → ∀ n, n ∈ suitsGo s c x l i → valid s n
  | [], _, _, n, hn => by cases hn
  | w :: r, i, hi, n, hn => by
    unfold suitsGo at hn
    simp only [List.length_cons] at hi
    split at hn
    · rcases List.mem_cons.1 hn with rfl | hn
      · exact ⟨by omega, by omega⟩
      · exact suits_valid s c x r (i + 1) (by omega) n hn
    · exact suits_valid s c x r (i + 1) (by omega) n hn
theorem valid_at {s : Shop} {n : Int} (h : valid s n) : ∃ w, s.wicks[n.toNat]? = some w ∧ thr s n = w.threads := by
  obtain ⟨w, hw⟩ := at_of h.1 h.2
  exact ⟨w, hw, by simp [thr, hw]⟩
theorem best_valid (s : Shop) : ∀ (l : List Int) (b : Int), (∀ n, n ∈ l → valid s n) → (b = -1 ∨ valid s b) → bestGo s l b = -1 ∨ valid s (bestGo s l b)
  | [], b, _, hb => hb
  | n :: r, b, hl, hb => by
    unfold bestGo
    refine best_valid s r _ (fun m hm => hl m (by simp [hm])) ?_
    split
    · exact .inr (hl n (by simp))
    · exact hb
theorem best_append (s : Shop) : ∀ (l : List Int) (n b : Int), bestGo s (l ++ [n]) b = if (decide (bestGo s l b < 0) || decide (thr s n < thr s (bestGo s l b))) = true then n else bestGo s l b
  | [], n, b => rfl
  | m :: r, n, b => by
    rw [List.cons_append, bestGo, best_append s r n, bestGo]
theorem best_nonneg (s : Shop) : ∀ (l : List Int) (b : Int), (∀ n, n ∈ l → valid s n) → (l ≠ [] ∨ 0 ≤ b) → 0 ≤ bestGo s l b
  | [], b, _, hb => by rcases hb with h | h; exact absurd rfl h; exact h
  | n :: r, b, hl, _ => by
    unfold bestGo
    refine best_nonneg s r _ (fun m hm => hl m (by simp [hm])) (.inr ?_)
    split
    · exact (hl n (by simp)).1
    · rename_i h; simp at h; exact h.1

def thinSpec (s : Shop) (c : Candle) (x : Wax) : Int × Int :=
  if askErr s [] c = 0 then (if bestGo s (suitsGo s c x s.wicks 0) (-1) < 0 then (0, 9) else (bestGo s (suitsGo s c x s.wicks 0) (-1), 0)) else (0, askErr s [] c)
theorem cWickThinnest (s : Shop) (c : Candle) (x : Wax) (h : askErr s [] c = 0 → Site s c x) : PCall Try.prog 28 [s.pv, c.pv] (.tuple [.int .i64 (thinSpec s c x).1, .int .i64 (thinSpec s c x).2]) := by
  refine pcall_of_wp draws (fn := Try.f28) (n := 49) (rs := [.tmp 4, .tmp 5]) (by kernel_rfl) rfl rfl rfl ok28 (Nat.le_of_ble_eq_true rfl) ?_
  simp (maxSteps := 400000) only [go_sem, ↓reduceIte, reduceCtorEq, Nat.reduceEqDiff, Nat.reduceAdd, Nat.reduceLT, Nat.reduceLeDiff, Nat.reduceSub, Int.reduceToNat, Int.reduceLE, Int.reduceLT, Int.reduceNeg, Int.reduceBEq, Int.reduceBNe, Nat.reduceMul, Int.reduceAdd, Int.reduceMul, Int.reduceSub, Int.reduceEq, Int.reduceNe]
  refine WF_pure ((cOpen s c [] false _ rfl (by simp) x (fun h0 => (h h0).hx)).argless (args' := [s.pv, c.pv, .nilslice]) ⟨.inl rfl, .inl rfl, .inr ⟨rfl, 1, rfl⟩, trivial⟩) rfl ?_
  by_cases h0' : askErr s [] c = 0
  rotate_left
  · have h0 : (askErr s [] c != 0) = true := by simpa using h0'
    simp (maxSteps := 400000) only [h0, thinSpec, if_neg h0', go_sem, ↓reduceIte, reduceCtorEq, Nat.reduceEqDiff, Nat.reduceAdd, Nat.reduceLT, Nat.reduceLeDiff, Nat.reduceSub, Int.reduceToNat, Int.reduceLE, Int.reduceLT, Int.reduceNeg, Int.reduceBEq, Int.reduceBNe, Nat.reduceMul, Int.reduceAdd, Int.reduceMul, Int.reduceSub, Int.reduceEq, Int.reduceNe]
  have h0 : (askErr s [] c != 0) = false := by simpa using h0'
  have hs := h h0'
  simp (maxSteps := 400000) only [h0, if_pos h0', go_sem, ↓reduceIte, reduceCtorEq, Nat.reduceEqDiff, Nat.reduceAdd, Nat.reduceLT, Nat.reduceLeDiff, Nat.reduceSub, Int.reduceToNat, Int.reduceLE, Int.reduceLT, Int.reduceNeg, Int.reduceBEq, Int.reduceBNe, Nat.reduceMul, Int.reduceAdd, Int.reduceMul, Int.reduceSub, Int.reduceEq, Int.reduceNe]
  refine WF_pure (cSuiting s c x) rfl ?_
  simp (maxSteps := 400000) only [go_sem, ↓reduceIte, reduceCtorEq, Nat.reduceEqDiff, Nat.reduceAdd, Nat.reduceLT, Nat.reduceLeDiff, Nat.reduceSub, Int.reduceToNat, Int.reduceLE, Int.reduceLT, Int.reduceNeg, Int.reduceBEq, Int.reduceBNe, Nat.reduceMul, Int.reduceAdd, Int.reduceMul, Int.reduceSub, Int.reduceEq, Int.reduceNe]
  generalize hl : suitsGo s c x s.wicks 0 = l
  have hval : ∀ n, n ∈ l → valid s n := by
    intro n hn
    rw [← hl] at hn
    exact suits_valid s c x s.wicks 0 (by simp) n hn
  have hit := iSuiting s c x hs
  rw [hl] at hit
  refine W_iter (l := l.map intPV) (fun o k h => k ≤ l.length ∧ h = [.row 6 [.p s.pv], .row 5 [.p c.pv], .row 1 [.p (openPV s c x)], .row 1 [.p (.int .i64 (bestGo s (l.take k) (-1)))], .dblock, o]) (fun _ _ => False)
    rfl (by simp (maxSteps := 400000) only [suitPV, go_sem, ↓reduceIte, reduceCtorEq, Nat.reduceEqDiff, Nat.reduceAdd, Nat.reduceLT, Nat.reduceLeDiff, Nat.reduceSub, Int.reduceToNat, Int.reduceLE, Int.reduceLT, Int.reduceNeg, Int.reduceBEq, Int.reduceBNe, Nat.reduceMul, Int.reduceAdd, Int.reduceMul, Int.reduceSub, Int.reduceEq, Int.reduceNe]) hit draws (by kernel_rfl) rfl (by kernel_rfl) (by kernel_rfl) ?_ ?_ ?_ ?_ ?_ (fun _ _ h => h.elim)
  · rintro o k h ⟨_, rfl⟩; simp
  · rintro o k h ⟨_, rfl⟩; simp
  · intro o
    refine ⟨by omega, ?_⟩
    simp (maxSteps := 400000) only [go_sem, ↓reduceIte, reduceCtorEq, Nat.reduceEqDiff, Nat.reduceAdd, Nat.reduceLT, Nat.reduceLeDiff, Nat.reduceSub, Int.reduceToNat, Int.reduceLE, Int.reduceLT, Int.reduceNeg, Int.reduceBEq, Int.reduceBNe, Nat.reduceMul, Int.reduceAdd, Int.reduceMul, Int.reduceSub, Int.reduceEq, Int.reduceNe]
    rfl
  · rintro oR oB oD k v h hv ⟨hk, rfl⟩
    have hv' : ∃ n, l[k]? = some n ∧ v = .int .i64 n := by
      rw [List.getElem?_map, Option.map_eq_some_iff] at hv
      obtain ⟨n, h1, rfl⟩ := hv
      exact ⟨n, h1, rfl⟩
    obtain ⟨n, hn, rfl⟩ := hv'
    have hlt : k < l.length := (List.getElem?_eq_some_iff.1 hn).1
    have hnv := hval n (List.mem_of_getElem? hn)
    obtain ⟨w, hw, ht⟩ := valid_at hnv
    have hb := best_append s (l.take k) n (-1)
    rw [← take_snoc hn] at hb
    have hbv := best_valid s (l.take k) (-1) (fun m hm => hval m (List.mem_of_mem_take hm)) (.inl rfl)
    generalize bestGo s (l.take k) (-1) = b at hb hbv
    have n0 := hnv.1
    have n1 := hnv.2
    simp (maxSteps := 400000) only [go_sem, ↓reduceIte, reduceCtorEq, Nat.reduceEqDiff, Nat.reduceAdd, Nat.reduceLT, Nat.reduceLeDiff, Nat.reduceSub, Int.reduceToNat, Int.reduceLE, Int.reduceLT, Int.reduceNeg, Int.reduceBEq, Int.reduceBNe, Nat.reduceMul, Int.reduceAdd, Int.reduceMul, Int.reduceSub, Int.reduceEq, Int.reduceNe]
    cases hneg : decide (b < 0)
    · have hbv' : valid s b := by
        rcases hbv with h | h
        · rw [h] at hneg; simp at hneg
        · exact h
      obtain ⟨w2, hw2, ht2⟩ := valid_at hbv'
      have b0 := hbv'.1
      have b1 := hbv'.2
      rw [hneg, ht, ht2] at hb
      simp (maxSteps := 400000) only [n0, n1, b0, b1, hw, hw2, go_sem, ↓reduceIte, reduceCtorEq, Nat.reduceEqDiff, Nat.reduceAdd, Nat.reduceLT, Nat.reduceLeDiff, Nat.reduceSub, Int.reduceToNat, Int.reduceLE, Int.reduceLT, Int.reduceNeg, Int.reduceBEq, Int.reduceBNe, Nat.reduceMul, Int.reduceAdd, Int.reduceMul, Int.reduceSub, Int.reduceEq, Int.reduceNe]
      cases hlt2 : decide (w.threads < w2.threads)
      · rw [hlt2] at hb
        simp (maxSteps := 400000) only [hb, go_sem, ↓reduceIte, reduceCtorEq, Nat.reduceEqDiff, Nat.reduceAdd, Nat.reduceLT, Nat.reduceLeDiff, Nat.reduceSub, Int.reduceToNat, Int.reduceLE, Int.reduceLT, Int.reduceNeg, Int.reduceBEq, Int.reduceBNe, Nat.reduceMul, Int.reduceAdd, Int.reduceMul, Int.reduceSub, Int.reduceEq, Int.reduceNe]
        exact .inl hlt
      · rw [hlt2] at hb
        simp (maxSteps := 400000) only [hb, go_sem, ↓reduceIte, reduceCtorEq, Nat.reduceEqDiff, Nat.reduceAdd, Nat.reduceLT, Nat.reduceLeDiff, Nat.reduceSub, Int.reduceToNat, Int.reduceLE, Int.reduceLT, Int.reduceNeg, Int.reduceBEq, Int.reduceBNe, Nat.reduceMul, Int.reduceAdd, Int.reduceMul, Int.reduceSub, Int.reduceEq, Int.reduceNe]
        exact .inl hlt
    · rw [hneg] at hb
      simp (maxSteps := 400000) only [hb, go_sem, ↓reduceIte, reduceCtorEq, Nat.reduceEqDiff, Nat.reduceAdd, Nat.reduceLT, Nat.reduceLeDiff, Nat.reduceSub, Int.reduceToNat, Int.reduceLE, Int.reduceLT, Int.reduceNeg, Int.reduceBEq, Int.reduceBNe, Nat.reduceMul, Int.reduceAdd, Int.reduceMul, Int.reduceSub, Int.reduceEq, Int.reduceNe]
      exact .inl hlt
  · rintro o h ⟨_, rfl⟩
    have h1 : l.take (l.map intPV).length = l := by simp
    rw [h1]
    simp (maxSteps := 400000) only [leave_collected, go_sem, ↓reduceIte, reduceCtorEq, Nat.reduceEqDiff, Nat.reduceAdd, Nat.reduceLT, Nat.reduceLeDiff, Nat.reduceSub, Int.reduceToNat, Int.reduceLE, Int.reduceLT, Int.reduceNeg, Int.reduceBEq, Int.reduceBNe, Nat.reduceMul, Int.reduceAdd, Int.reduceMul, Int.reduceSub, Int.reduceEq, Int.reduceNe]
    cases hneg : decide (bestGo s l (-1) < 0)
    · have : ¬ bestGo s l (-1) < 0 := by simpa using hneg
      simp (maxSteps := 400000) only [thinSpec, if_pos h0', hl, if_neg this, leave_collected, go_sem, ↓reduceIte, reduceCtorEq, Nat.reduceEqDiff, Nat.reduceAdd, Nat.reduceLT, Nat.reduceLeDiff, Nat.reduceSub, Int.reduceToNat, Int.reduceLE, Int.reduceLT, Int.reduceNeg, Int.reduceBEq, Int.reduceBNe, Nat.reduceMul, Int.reduceAdd, Int.reduceMul, Int.reduceSub, Int.reduceEq, Int.reduceNe]
    · have : bestGo s l (-1) < 0 := by simpa using hneg
      simp (maxSteps := 400000) only [thinSpec, if_pos h0', hl, if_pos this, leave_collected, go_sem, ↓reduceIte, reduceCtorEq, Nat.reduceEqDiff, Nat.reduceAdd, Nat.reduceLT, Nat.reduceLeDiff, Nat.reduceSub, Int.reduceToNat, Int.reduceLE, Int.reduceLT, Int.reduceNeg, Int.reduceBEq, Int.reduceBNe, Nat.reduceMul, Int.reduceAdd, Int.reduceMul, Int.reduceSub, Int.reduceEq, Int.reduceNe]

theorem cRefThinnest (s : Shop) (c : Candle) (x : Wax) (h : askErr s [] c = 0 → Site s c x) : PCall Try.prog 29 [s.pv, c.pv] (.tuple [.int .i64 (thinSpec s c x).1, .int .i64 (thinSpec s c x).2]) := by
  refine pcall_of_wp draws (fn := Try.f29) (n := 56) (rs := [.tmp 4, .tmp 5]) (by kernel_rfl) rfl rfl rfl ok29 (Nat.le_of_ble_eq_true rfl) ?_
  simp (maxSteps := 400000) only [go_sem, ↓reduceIte, reduceCtorEq, Nat.reduceEqDiff, Nat.reduceAdd, Nat.reduceLT, Nat.reduceLeDiff, Nat.reduceSub, Int.reduceToNat, Int.reduceLE, Int.reduceLT, Int.reduceNeg, Int.reduceBEq, Int.reduceBNe, Nat.reduceMul, Int.reduceAdd, Int.reduceMul, Int.reduceSub, Int.reduceEq, Int.reduceNe]
  refine WF_pure (cRefSuits s c x h) rfl ?_
  simp (maxSteps := 400000) only [intsPV, go_sem, ↓reduceIte, reduceCtorEq, Nat.reduceEqDiff, Nat.reduceAdd, Nat.reduceLT, Nat.reduceLeDiff, Nat.reduceSub, Int.reduceToNat, Int.reduceLE, Int.reduceLT, Int.reduceNeg, Int.reduceBEq, Int.reduceBNe, Nat.reduceMul, Int.reduceAdd, Int.reduceMul, Int.reduceSub, Int.reduceEq, Int.reduceNe]
  cases h0 : (askErr s [] c == 0)
  · have h0' : ¬ askErr s [] c = 0 := by simpa using h0
    have h0n : (askErr s [] c != 0) = true := by simp [bne, h0]
    simp (maxSteps := 400000) only [suitsSpec, if_neg h0', h0, h0n, thinSpec, go_sem, ↓reduceIte, reduceCtorEq, Nat.reduceEqDiff, Nat.reduceAdd, Nat.reduceLT, Nat.reduceLeDiff, Nat.reduceSub, Int.reduceToNat, Int.reduceLE, Int.reduceLT, Int.reduceNeg, Int.reduceBEq, Int.reduceBNe, Nat.reduceMul, Int.reduceAdd, Int.reduceMul, Int.reduceSub, Int.reduceEq, Int.reduceNe]
  have h0' : askErr s [] c = 0 := by simpa using h0
  have hs := h h0'
  simp (maxSteps := 400000) only [suitsSpec, if_pos h0', go_sem, ↓reduceIte, reduceCtorEq, Nat.reduceEqDiff, Nat.reduceAdd, Nat.reduceLT, Nat.reduceLeDiff, Nat.reduceSub, Int.reduceToNat, Int.reduceLE, Int.reduceLT, Int.reduceNeg, Int.reduceBEq, Int.reduceBNe, Nat.reduceMul, Int.reduceAdd, Int.reduceMul, Int.reduceSub, Int.reduceEq, Int.reduceNe]
  have hlen := suits_len s c x s.wicks 0
  have lw := hs.so.lw
  have hval := suits_valid s c x s.wicks 0 (by simp)
  have hsp : thinSpec s c x = if bestGo s (suitsGo s c x s.wicks 0) (-1) < 0 then (0, 9) else (bestGo s (suitsGo s c x s.wicks 0) (-1), 0) := by rw [thinSpec, if_pos h0']
  rw [hsp]
  generalize suitsGo s c x s.wicks 0 = l at hlen hval
  cases l with
  | nil => simp (maxSteps := 400000) only [bestGo, go_sem, ↓reduceIte, reduceCtorEq, Nat.reduceEqDiff, Nat.reduceAdd, Nat.reduceLT, Nat.reduceLeDiff, Nat.reduceSub, Int.reduceToNat, Int.reduceLE, Int.reduceLT, Int.reduceNeg, Int.reduceBEq, Int.reduceBNe, Nat.reduceMul, Int.reduceAdd, Int.reduceMul, Int.reduceSub, Int.reduceEq, Int.reduceNe]
  | cons a t =>
    have hne : ¬ bestGo s (a :: t) (-1) < 0 := by have := best_nonneg s (a :: t) (-1) hval (.inl (by simp)); omega
    rw [if_neg hne]
    obtain ⟨l, hl⟩ : ∃ l, l = a :: t := ⟨_, rfl⟩
    rw [← hl] at hval hlen ⊢
    have e0 : (((l.length : Nat) : Int) == 0) = false := by rw [hl]; simp <;> omega
    have e1 : (0 : Int) < ((l.length : Nat) : Int) := by rw [hl]; simp <;> omega
    have e2 : l[0]? = some a := by rw [hl]; rfl
    simp (maxSteps := 400000) only [e0, e1, e2, go_sem, ↓reduceIte, reduceCtorEq, Nat.reduceEqDiff, Nat.reduceAdd, Nat.reduceLT, Nat.reduceLeDiff, Nat.reduceSub, Int.reduceToNat, Int.reduceLE, Int.reduceLT, Int.reduceNeg, Int.reduceBEq, Int.reduceBNe, Nat.reduceMul, Int.reduceAdd, Int.reduceMul, Int.reduceSub, Int.reduceEq, Int.reduceNe]
    have hstart : bestGo s l (-1) = bestGo s t a := by rw [hl]; simp [bestGo]
    rw [hstart]
    refine W_loopH [2, 6] (σ := List Int × List Int × Int) (fun q => l = q.1 ++ q.2.1 ∧ bestGo s t a = bestGo s q.2.1 q.2.2 ∧ valid s q.2.2) (fun q => q.2.1.length) (fun q => [(8, .p (.int .i64 q.2.2)), (9, .p (.int .i64 q.1.length))]) ([a], t, a) ⟨hl, rfl, hval a (by rw [hl]; simp)⟩ ?_ ?_
    · simp (maxSteps := 400000) only [go_sem, ↓reduceIte, reduceCtorEq, Nat.reduceEqDiff, Nat.reduceAdd, Nat.reduceLT, Nat.reduceLeDiff, Nat.reduceSub, Int.reduceToNat, Int.reduceLE, Int.reduceLT, Int.reduceNeg, Int.reduceBEq, Int.reduceBNe, Nat.reduceMul, Int.reduceAdd, Int.reduceMul, Int.reduceSub, Int.reduceEq, Int.reduceNe]
    rintro ⟨done, rest, b⟩ ⟨e3, e4, e5⟩
    dsimp only at e3 e4 e5
    cases rest with
    | nil =>
      have hlt : ¬ ((done.length : Int) < ((l.length : Nat) : Int)) := by rw [e3]; simp
      simp (maxSteps := 400000) only [hlt, go_sem, ↓reduceIte, reduceCtorEq, Nat.reduceEqDiff, Nat.reduceAdd, Nat.reduceLT, Nat.reduceLeDiff, Nat.reduceSub, Int.reduceToNat, Int.reduceLE, Int.reduceLT, Int.reduceNeg, Int.reduceBEq, Int.reduceBNe, Nat.reduceMul, Int.reduceAdd, Int.reduceMul, Int.reduceSub, Int.reduceEq, Int.reduceNe]
      rw [e4]; rfl
    | cons n r =>
      obtain ⟨hx, hlt⟩ := list_at e3
      have hnx : IntKind.i64.wrap ((done.length : Int) + 1) = (((done ++ [n]).length : Nat) : Int) := wrap_add (by omega) (by simp [room]; omega) (by simp)
      have hnv := hval n (by rw [e3]; simp)
      obtain ⟨w, hw, ht⟩ := valid_at hnv
      obtain ⟨w2, hw2, ht2⟩ := valid_at e5
      have n0 := hnv.1
      have n1 := hnv.2
      have b0 := e5.1
      have b1 := e5.2
      have hneg : decide (b < 0) = false := by simp; exact b0
      rw [bestGo, hneg, ht, ht2] at e4
      simp (maxSteps := 400000) only [hlt, hx, n0, n1, b0, b1, hw, hw2, go_sem, ↓reduceIte, reduceCtorEq, Nat.reduceEqDiff, Nat.reduceAdd, Nat.reduceLT, Nat.reduceLeDiff, Nat.reduceSub, Int.reduceToNat, Int.reduceLE, Int.reduceLT, Int.reduceNeg, Int.reduceBEq, Int.reduceBNe, Nat.reduceMul, Int.reduceAdd, Int.reduceMul, Int.reduceSub, Int.reduceEq, Int.reduceNe]
      cases hlt2 : decide (w.threads < w2.threads)
      · rw [hlt2] at e4
        simp (maxSteps := 400000) only [go_sem, ↓reduceIte, reduceCtorEq, Nat.reduceEqDiff, Nat.reduceAdd, Nat.reduceLT, Nat.reduceLeDiff, Nat.reduceSub, Int.reduceToNat, Int.reduceLE, Int.reduceLT, Int.reduceNeg, Int.reduceBEq, Int.reduceBNe, Nat.reduceMul, Int.reduceAdd, Int.reduceMul, Int.reduceSub, Int.reduceEq, Int.reduceNe]
        refine WQ_headA (done ++ [n], r, b) ⟨by simp [e3], by rw [e4]; rfl, e5⟩ (by simp) ?_
        simp (maxSteps := 400000) only [hnx, go_sem, ↓reduceIte, reduceCtorEq, Nat.reduceEqDiff, Nat.reduceAdd, Nat.reduceLT, Nat.reduceLeDiff, Nat.reduceSub, Int.reduceToNat, Int.reduceLE, Int.reduceLT, Int.reduceNeg, Int.reduceBEq, Int.reduceBNe, Nat.reduceMul, Int.reduceAdd, Int.reduceMul, Int.reduceSub, Int.reduceEq, Int.reduceNe]
      · rw [hlt2] at e4
        simp (maxSteps := 400000) only [hlt, hx, n0, n1, b0, b1, hw, hw2, go_sem, ↓reduceIte, reduceCtorEq, Nat.reduceEqDiff, Nat.reduceAdd, Nat.reduceLT, Nat.reduceLeDiff, Nat.reduceSub, Int.reduceToNat, Int.reduceLE, Int.reduceLT, Int.reduceNeg, Int.reduceBEq, Int.reduceBNe, Nat.reduceMul, Int.reduceAdd, Int.reduceMul, Int.reduceSub, Int.reduceEq, Int.reduceNe]
        refine WQ_headA (done ++ [n], r, n) ⟨by simp [e3], by rw [e4]; rfl, hnv⟩ (by simp) ?_
        simp (maxSteps := 400000) only [hnx, go_sem, ↓reduceIte, reduceCtorEq, Nat.reduceEqDiff, Nat.reduceAdd, Nat.reduceLT, Nat.reduceLeDiff, Nat.reduceSub, Int.reduceToNat, Int.reduceLE, Int.reduceLT, Int.reduceNeg, Int.reduceBEq, Int.reduceBNe, Nat.reduceMul, Int.reduceAdd, Int.reduceMul, Int.reduceSub, Int.reduceEq, Int.reduceNe]

end Abs
end Go.Proofs.Ytdgmmijimclooaa
