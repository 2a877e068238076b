/-
  CONTRACTS: the wicks that suit.
  CONTRACTS: the thinnest wick that suits.
-/
import Derived.Test.YtdgmmijimclooaaWkFlt
namespace Go.Proofs.Ytdgmmijimclooaa
namespace Abs
set_option linter.unusedSimpArgs false
set_option maxRecDepth 4000

def okW (s : Shop) (c : Candle) (x : Wax) (w : Wick) : Bool := (faultsOf s c.diameter (leastB w x c) (mostB w x c)).length == 0
def suitsGo (s : Shop) (c : Candle) (x : Wax) : List Wick → Nat → List Int
  | [], _ => []
  | w :: r, i => if okW s c x w = true then (i : Int) :: suitsGo s c x r (i + 1) else suitsGo s c x r (i + 1)
theorem site_at {s : Shop} {c : Candle} {x : Wax} (hs : Site s c x) {done r : List Wick} {w : Wick} (e : s.wicks = done ++ w :: r) : SiteK s (done.length : Int) w :=
  ⟨by omega, by rw [e]; simp <;> omega, by rw [e]; simp, hs.so.w w (by rw [e]; simp)⟩

def suitPV (s : Shop) (c : Candle) (x : Wax) : PV := .func (.func 84) [] [.ptr 1 [openPV s c x] 0 0]
theorem iSuiting (s : Shop) (c : Candle) (x : Wax) (hs : Site s c x) : Iter Try.prog (suitPV s c x) ((suitsGo s c x s.wicks 0).map intPV) := by
  refine ⟨_, _, _, rfl, fun id Inv Fin h0 hlen hy hi => ?_⟩
  have lw := hs.so.lw
  refine hcall_of_wp draws (fn := Try.f84) (n := 25) (rs := []) (by kernel_rfl) rfl rfl rfl ok84 (Nat.le_of_ble_eq_true rfl) ?_
  simp (config := { maxSteps := 400000 }) only [go_sem, ↓reduceIte, reduceCtorEq, Nat.reduceEqDiff, Nat.reduceAdd, Nat.reduceLT, Nat.reduceLeDiff, Nat.reduceSub, Int.reduceToNat, Int.reduceLE, Int.reduceLT, Int.reduceNeg, Int.reduceBEq, Int.reduceBNe, Nat.reduceMul, Int.reduceAdd, Int.reduceMul, Int.reduceSub, Int.reduceEq, Int.reduceNe]
  refine W_loopK [0, 1, 9] (σ := List Wick × List Wick × List Int × Heap) (fun q => s.wicks = q.1 ++ q.2.1 ∧ suitsGo s c x s.wicks 0 = q.2.2.1 ++ suitsGo s c x q.2.1 q.1.length ∧ Inv q.2.2.1.length q.2.2.2) (fun q => q.2.1.length)
    (fun q => [(10, .p (.int .i64 q.1.length))]) (fun q => q.2.2.2) ([], s.wicks, [], h0) ⟨rfl, rfl, hi⟩ rfl ?_ ?_
  · simp (config := { maxSteps := 400000 }) only [go_sem, ↓reduceIte, reduceCtorEq, Nat.reduceEqDiff, Nat.reduceAdd, Nat.reduceLT, Nat.reduceLeDiff, Nat.reduceSub, Int.reduceToNat, Int.reduceLE, Int.reduceLT, Int.reduceNeg, Int.reduceBEq, Int.reduceBNe, Nat.reduceMul, Int.reduceAdd, Int.reduceMul, Int.reduceSub, Int.reduceEq, Int.reduceNe]
  rintro ⟨done, rest, pre, h⟩ ⟨e1, e2, hI⟩
  dsimp only at e1 e2 hI
  cases rest with
  | nil =>
    have hlt : ¬ ((done.length : Int) < (s.wicks.length : Int)) := by rw [e1]; simp
    simp (config := { maxSteps := 400000 }) only [hlt, go_sem, ↓reduceIte, reduceCtorEq, Nat.reduceEqDiff, Nat.reduceAdd, Nat.reduceLT, Nat.reduceLeDiff, Nat.reduceSub, Int.reduceToNat, Int.reduceLE, Int.reduceLT, Int.reduceNeg, Int.reduceBEq, Int.reduceBNe, Nat.reduceMul, Int.reduceAdd, Int.reduceMul, Int.reduceSub, Int.reduceEq, Int.reduceNe]
    refine .inl ?_
    rw [e2, suitsGo, List.append_nil]
    exact hI
  | cons w r =>
    obtain ⟨hx, hlt⟩ := list_at e1
    have hnx : IntKind.i64.wrap ((done.length : Int) + 1) = (((done ++ [w]).length : Nat) : Int) := wrap_add (by omega) (by simp [room]; omega) (by simp)
    have hk := site_at hs e1
    rw [suitsGo] at e2
    simp (config := { maxSteps := 400000 }) only [hlt, go_sem, ↓reduceIte, reduceCtorEq, Nat.reduceEqDiff, Nat.reduceAdd, Nat.reduceLT, Nat.reduceLeDiff, Nat.reduceSub, Int.reduceToNat, Int.reduceLE, Int.reduceLT, Int.reduceNeg, Int.reduceBEq, Int.reduceBNe, Nat.reduceMul, Int.reduceAdd, Int.reduceMul, Int.reduceSub, Int.reduceEq, Int.reduceNe]
    refine WF_pure (cFaultsIn s c x _ w hs hk) rfl ?_
    simp (config := { maxSteps := 400000 }) only [intsPV, go_sem, ↓reduceIte, reduceCtorEq, Nat.reduceEqDiff, Nat.reduceAdd, Nat.reduceLT, Nat.reduceLeDiff, Nat.reduceSub, Int.reduceToNat, Int.reduceLE, Int.reduceLT, Int.reduceNeg, Int.reduceBEq, Int.reduceBNe, Nat.reduceMul, Int.reduceAdd, Int.reduceMul, Int.reduceSub, Int.reduceEq, Int.reduceNe]
    have hok : ((((faultsOf s c.diameter (leastB w x c) (mostB w x c)).length : Nat) : Int) == 0) = okW s c x w := by
      unfold okW
      rw [Bool.eq_iff_iff]; simp
    rw [hok]
    cases hb : okW s c x w
    · simp (config := { maxSteps := 400000 }) only [go_sem, ↓reduceIte, reduceCtorEq, Nat.reduceEqDiff, Nat.reduceAdd, Nat.reduceLT, Nat.reduceLeDiff, Nat.reduceSub, Int.reduceToNat, Int.reduceLE, Int.reduceLT, Int.reduceNeg, Int.reduceBEq, Int.reduceBNe, Nat.reduceMul, Int.reduceAdd, Int.reduceMul, Int.reduceSub, Int.reduceEq, Int.reduceNe]
      refine WQ_headK (done ++ [w], r, pre, h) ⟨by simp [e1], by rw [e2, hb]; simp, hI⟩ (by simp) rfl ?_
      simp (config := { maxSteps := 400000 }) only [hnx, go_sem, ↓reduceIte, reduceCtorEq, Nat.reduceEqDiff, Nat.reduceAdd, Nat.reduceLT, Nat.reduceLeDiff, Nat.reduceSub, Int.reduceToNat, Int.reduceLE, Int.reduceLT, Int.reduceNeg, Int.reduceBEq, Int.reduceBNe, Nat.reduceMul, Int.reduceAdd, Int.reduceMul, Int.reduceSub, Int.reduceEq, Int.reduceNe]
    · rw [hb, if_pos rfl] at e2
      have hget : ((suitsGo s c x s.wicks 0).map intPV)[pre.length]? = some (.int .i64 done.length) := by rw [e2]; simp [intPV]
      simp (config := { maxSteps := 400000 }) only [go_sem, ↓reduceIte, reduceCtorEq, Nat.reduceEqDiff, Nat.reduceAdd, Nat.reduceLT, Nat.reduceLeDiff, Nat.reduceSub, Int.reduceToNat, Int.reduceLE, Int.reduceLT, Int.reduceNeg, Int.reduceBEq, Int.reduceBNe, Nat.reduceMul, Int.reduceAdd, Int.reduceMul, Int.reduceSub, Int.reduceEq, Int.reduceNe]
      refine WR_yld (hy pre.length _ h hget hI) (fun v h' hr => ?_) (fun v h' hr => ?_)
      rotate_left
      · rcases hr with ⟨hr, _⟩ | ⟨hr, _⟩ <;> cases hr
      rcases hr with ⟨hr, hI'⟩ | ⟨hr, hF, _⟩
      · cases hr
        simp (config := { maxSteps := 400000 }) only [go_sem, ↓reduceIte, reduceCtorEq, Nat.reduceEqDiff, Nat.reduceAdd, Nat.reduceLT, Nat.reduceLeDiff, Nat.reduceSub, Int.reduceToNat, Int.reduceLE, Int.reduceLT, Int.reduceNeg, Int.reduceBEq, Int.reduceBNe, Nat.reduceMul, Int.reduceAdd, Int.reduceMul, Int.reduceSub, Int.reduceEq, Int.reduceNe]
        refine WQ_headK (done ++ [w], r, pre ++ [(done.length : Int)], h') ⟨by simp [e1], by rw [e2]; simp, by simpa using hI'⟩ (by simp) rfl ?_
        simp (config := { maxSteps := 400000 }) only [hnx, go_sem, ↓reduceIte, reduceCtorEq, Nat.reduceEqDiff, Nat.reduceAdd, Nat.reduceLT, Nat.reduceLeDiff, Nat.reduceSub, Int.reduceToNat, Int.reduceLE, Int.reduceLT, Int.reduceNeg, Int.reduceBEq, Int.reduceBNe, Nat.reduceMul, Int.reduceAdd, Int.reduceMul, Int.reduceSub, Int.reduceEq, Int.reduceNe]
      · cases hr
        simp (config := { maxSteps := 400000 }) only [go_sem, ↓reduceIte, reduceCtorEq, Nat.reduceEqDiff, Nat.reduceAdd, Nat.reduceLT, Nat.reduceLeDiff, Nat.reduceSub, Int.reduceToNat, Int.reduceLE, Int.reduceLT, Int.reduceNeg, Int.reduceBEq, Int.reduceBNe, Nat.reduceMul, Int.reduceAdd, Int.reduceMul, Int.reduceSub, Int.reduceEq, Int.reduceNe]
        exact .inr hF

theorem cSuiting (s : Shop) (c : Candle) (x : Wax) : PCall Try.prog 64 [openPV s c x] (suitPV s c x) := by
  refine pcall_of_wp_frz draws (fn := Try.f64) (n := 4) (rs := [.tmp 2]) (by kernel_rfl) rfl rfl rfl ok64 (Nat.le_of_ble_eq_true rfl) ?_
  simp (config := { maxSteps := 400000 }) only [suitPV, go_sem, ↓reduceIte, reduceCtorEq, Nat.reduceEqDiff, Nat.reduceAdd, Nat.reduceLT, Nat.reduceLeDiff, Nat.reduceSub, Int.reduceToNat, Int.reduceLE, Int.reduceLT, Int.reduceNeg, Int.reduceBEq, Int.reduceBNe, Nat.reduceMul, Int.reduceAdd, Int.reduceMul, Int.reduceSub, Int.reduceEq, Int.reduceNe]

/-! collecting -/
theorem take_snoc {α : Type} {l : List α} {k : Nat} {x : α} (h : l[k]? = some x) : l.take (k + 1) = l.take k ++ [x] := by
  rw [List.take_add_one, h]; rfl
theorem cAppendSeq (fv : PV) (l : List Int) (hl : l.length < 1000000) (hi : Iter Try.prog fv (l.map intPV)) : PCall Try.prog 83 [.nilslice, fv] (.slice 1 (l.map intPV) false) := by
  refine pcall_of_wp_frzN draws (fn := Try.f83) (n := 13) (rs := [.tmp 4]) (by kernel_rfl) rfl rfl rfl ok83 (Nat.le_of_ble_eq_true rfl) ?_
  simp (config := { maxSteps := 400000 }) only [go_sem, ↓reduceIte, reduceCtorEq, Nat.reduceEqDiff, Nat.reduceAdd, Nat.reduceLT, Nat.reduceLeDiff, Nat.reduceSub, Int.reduceToNat, Int.reduceLE, Int.reduceLT, Int.reduceNeg, Int.reduceBEq, Int.reduceBNe, Nat.reduceMul, Int.reduceAdd, Int.reduceMul, Int.reduceSub, Int.reduceEq, Int.reduceNe]
  refine W_iter (l := l.map intPV) (fun o k h => (k = 0 ∧ h = [.row 1 [.p .nilslice], .dblock, o]) ∨ (k ≠ 0 ∧ k ≤ l.length ∧ h = [.row 1 [.slice 3 k 0 k], .dblock, o, .row 1 ((l.take k).map fun n => .p (.int .i64 n))])) (fun _ _ => False)
    rfl (by simp (config := { maxSteps := 400000 }) only [go_sem, ↓reduceIte, reduceCtorEq, Nat.reduceEqDiff, Nat.reduceAdd, Nat.reduceLT, Nat.reduceLeDiff, Nat.reduceSub, Int.reduceToNat, Int.reduceLE, Int.reduceLT, Int.reduceNeg, Int.reduceBEq, Int.reduceBNe, Nat.reduceMul, Int.reduceAdd, Int.reduceMul, Int.reduceSub, Int.reduceEq, Int.reduceNe]) hi draws (by kernel_rfl) rfl (by kernel_rfl) (by kernel_rfl) ?_ ?_ ?_ ?_ ?_ (fun _ _ h => h.elim)
  · rintro o k h (⟨rfl, rfl⟩ | ⟨hk, _, rfl⟩) <;> simp
  · rintro o k h (⟨rfl, rfl⟩ | ⟨hk, _, rfl⟩) <;> simp
  · intro o
    exact .inl ⟨rfl, rfl⟩
  · intro oR oB oD k v h hv hI
    have hv' : ∃ n, l[k]? = some n ∧ v = .int .i64 n := by
      rw [List.getElem?_map, Option.map_eq_some_iff] at hv
      obtain ⟨n, h1, rfl⟩ := hv
      exact ⟨n, h1, rfl⟩
    obtain ⟨n, hn, rfl⟩ := hv'
    have hlt : k < l.length := (List.getElem?_eq_some_iff.1 hn).1
    rcases hI with ⟨rfl, rfl⟩ | ⟨hk, hkl, rfl⟩
    · have hr : (1 : Nat) ≤ room := by simp [room]
      have ht := take_snoc hn
      simp (config := { maxSteps := 400000 }) only [hr, go_sem, ↓reduceIte, reduceCtorEq, Nat.reduceEqDiff, Nat.reduceAdd, Nat.reduceLT, Nat.reduceLeDiff, Nat.reduceSub, Int.reduceToNat, Int.reduceLE, Int.reduceLT, Int.reduceNeg, Int.reduceBEq, Int.reduceBNe, Nat.reduceMul, Int.reduceAdd, Int.reduceMul, Int.reduceSub, Int.reduceEq, Int.reduceNe]
      exact .inl (.inr ⟨by omega, by rw [ht]; rfl⟩)
    · have hr : k + 1 ≤ room := by simp [room]; omega
      have ht := take_snoc hn
      have hlen : (l.take k).length = k := by simp; omega
      simp (config := { maxSteps := 400000 }) only [hr, hlen, go_sem, ↓reduceIte, reduceCtorEq, Nat.reduceEqDiff, Nat.reduceAdd, Nat.reduceLT, Nat.reduceLeDiff, Nat.reduceSub, Int.reduceToNat, Int.reduceLE, Int.reduceLT, Int.reduceNeg, Int.reduceBEq, Int.reduceBNe, Nat.reduceMul, Int.reduceAdd, Int.reduceMul, Int.reduceSub, Int.reduceEq, Int.reduceNe]
      refine .inl (.inr ⟨by omega, ?_⟩)
      rw [ht, List.map_append]
      rfl
  · rintro o h (⟨h0, rfl⟩ | ⟨h0, _, rfl⟩)
    · have : l = [] := by simpa using h0
      subst this
      simp (config := { maxSteps := 400000 }) only [leave_collected, go_sem, ↓reduceIte, reduceCtorEq, Nat.reduceEqDiff, Nat.reduceAdd, Nat.reduceLT, Nat.reduceLeDiff, Nat.reduceSub, Int.reduceToNat, Int.reduceLE, Int.reduceLT, Int.reduceNeg, Int.reduceBEq, Int.reduceBNe, Nat.reduceMul, Int.reduceAdd, Int.reduceMul, Int.reduceSub, Int.reduceEq, Int.reduceNe]
      first | exact .inl (.inl rfl) | exact .inl (.inr ⟨rfl, 1, rfl⟩) | exact .inr ⟨_, _, rfl, rfl, .inl rfl, .inl rfl, trivial⟩ | exact .inr ⟨_, _, rfl, rfl, .inr ⟨rfl, 1, rfl⟩, .inl rfl, trivial⟩ | exact ⟨1, rfl⟩ | (simp; done)
    · have hlen : (l.map intPV).length = l.length := by simp
      have h1 : l.take l.length = l := by simp
      rw [hlen, h1]
      simp (config := { maxSteps := 400000 }) only [leave_collected, go_sem, ↓reduceIte, reduceCtorEq, Nat.reduceEqDiff, Nat.reduceAdd, Nat.reduceLT, Nat.reduceLeDiff, Nat.reduceSub, Int.reduceToNat, Int.reduceLE, Int.reduceLT, Int.reduceNeg, Int.reduceBEq, Int.reduceBNe, Nat.reduceMul, Int.reduceAdd, Int.reduceMul, Int.reduceSub, Int.reduceEq, Int.reduceNe]
      first | exact .inl (.inl rfl) | exact .inl (.inr ⟨rfl, 1, rfl⟩) | exact .inr ⟨_, _, rfl, rfl, .inl rfl, .inl rfl, trivial⟩ | exact .inr ⟨_, _, rfl, rfl, .inr ⟨rfl, 1, rfl⟩, .inl rfl, trivial⟩ | exact ⟨1, rfl⟩ | (simp; done)
theorem cCollect (fv : PV) (l : List Int) (hl : l.length < 1000000) (hi : Iter Try.prog fv (l.map intPV)) : PCall Try.prog 63 [fv] (.slice 1 (l.map intPV) false) := by
  refine pcall_of_wp draws (fn := Try.f63) (n := 5) (rs := [.tmp 2]) (by kernel_rfl) rfl rfl rfl ok63 (Nat.le_of_ble_eq_true rfl) ?_
  simp (config := { maxSteps := 400000 }) only [go_sem, ↓reduceIte, reduceCtorEq, Nat.reduceEqDiff, Nat.reduceAdd, Nat.reduceLT, Nat.reduceLeDiff, Nat.reduceSub, Int.reduceToNat, Int.reduceLE, Int.reduceLT, Int.reduceNeg, Int.reduceBEq, Int.reduceBNe, Nat.reduceMul, Int.reduceAdd, Int.reduceMul, Int.reduceSub, Int.reduceEq, Int.reduceNe]
  refine WF_pure (cAppendSeq fv l hl hi) rfl ?_
  simp (config := { maxSteps := 400000 }) only [go_sem, ↓reduceIte, reduceCtorEq, Nat.reduceEqDiff, Nat.reduceAdd, Nat.reduceLT, Nat.reduceLeDiff, Nat.reduceSub, Int.reduceToNat, Int.reduceLE, Int.reduceLT, Int.reduceNeg, Int.reduceBEq, Int.reduceBNe, Nat.reduceMul, Int.reduceAdd, Int.reduceMul, Int.reduceSub, Int.reduceEq, Int.reduceNe]

theorem suits_len (s : Shop) (c : Candle) (x : Wax) : ∀ (l : List Wick) (i : Nat), (suitsGo s c x l i).length ≤ l.length
  | [], _ => Nat.le_refl _
  | w :: r, i => by
    have := suits_len s c x r (i + 1)
    unfold suitsGo
    split <;> simp <;> omega

/-- Suits: the wicks, the error -/
def suitsSpec (s : Shop) (c : Candle) (x : Wax) : List Int × Int := if askErr s [] c = 0 then (suitsGo s c x s.wicks 0, 0) else ([], askErr s [] c)
theorem cWickSuits (s : Shop) (c : Candle) (x : Wax) (h : askErr s [] c = 0 → Site s c x) : PCall Try.prog 26 [s.pv, c.pv] (.tuple [intsPV (suitsSpec s c x).1, .int .i64 (suitsSpec s c x).2]) := by
  refine pcall_of_wp_frzN draws (fn := Try.f26) (n := 20) (rs := [.tmp 4, .tmp 5]) (by kernel_rfl) rfl rfl rfl ok26 (Nat.le_of_ble_eq_true rfl) ?_
  simp (config := { maxSteps := 400000 }) only [go_sem, ↓reduceIte, reduceCtorEq, Nat.reduceEqDiff, Nat.reduceAdd, Nat.reduceLT, Nat.reduceLeDiff, Nat.reduceSub, Int.reduceToNat, Int.reduceLE, Int.reduceLT, Int.reduceNeg, Int.reduceBEq, Int.reduceBNe, Nat.reduceMul, Int.reduceAdd, Int.reduceMul, Int.reduceSub, Int.reduceEq, Int.reduceNe]
  refine WF_pure ((cOpen s c [] false _ rfl (by simp) x (fun h0 => (h h0).hx)).argless (args' := [s.pv, c.pv, .nilslice]) ⟨.inl rfl, .inl rfl, .inr ⟨rfl, 1, rfl⟩, trivial⟩) rfl ?_
  simp (config := { maxSteps := 400000 }) only [go_sem, ↓reduceIte, reduceCtorEq, Nat.reduceEqDiff, Nat.reduceAdd, Nat.reduceLT, Nat.reduceLeDiff, Nat.reduceSub, Int.reduceToNat, Int.reduceLE, Int.reduceLT, Int.reduceNeg, Int.reduceBEq, Int.reduceBNe, Nat.reduceMul, Int.reduceAdd, Int.reduceMul, Int.reduceSub, Int.reduceEq, Int.reduceNe]
  cases h0 : (askErr s [] c != 0)
  rotate_left
  · have h0' : ¬ askErr s [] c = 0 := by simpa using h0
    simp (config := { maxSteps := 400000 }) only [suitsSpec, if_neg h0', intsPV, go_sem, ↓reduceIte, reduceCtorEq, Nat.reduceEqDiff, Nat.reduceAdd, Nat.reduceLT, Nat.reduceLeDiff, Nat.reduceSub, Int.reduceToNat, Int.reduceLE, Int.reduceLT, Int.reduceNeg, Int.reduceBEq, Int.reduceBNe, Nat.reduceMul, Int.reduceAdd, Int.reduceMul, Int.reduceSub, Int.reduceEq, Int.reduceNe]
    first | exact .inl (.inl rfl) | exact .inl (.inr ⟨rfl, 1, rfl⟩) | exact .inr ⟨_, _, rfl, rfl, .inl rfl, .inl rfl, trivial⟩ | exact .inr ⟨_, _, rfl, rfl, .inr ⟨rfl, 1, rfl⟩, .inl rfl, trivial⟩ | exact ⟨1, rfl⟩ | (simp; done)
  have h0' : askErr s [] c = 0 := by simpa using h0
  have hs := h h0'
  simp (config := { maxSteps := 400000 }) only [if_pos h0', go_sem, ↓reduceIte, reduceCtorEq, Nat.reduceEqDiff, Nat.reduceAdd, Nat.reduceLT, Nat.reduceLeDiff, Nat.reduceSub, Int.reduceToNat, Int.reduceLE, Int.reduceLT, Int.reduceNeg, Int.reduceBEq, Int.reduceBNe, Nat.reduceMul, Int.reduceAdd, Int.reduceMul, Int.reduceSub, Int.reduceEq, Int.reduceNe]
  refine WF_pure (cSuiting s c x) rfl ?_
  simp (config := { maxSteps := 400000 }) only [go_sem, ↓reduceIte, reduceCtorEq, Nat.reduceEqDiff, Nat.reduceAdd, Nat.reduceLT, Nat.reduceLeDiff, Nat.reduceSub, Int.reduceToNat, Int.reduceLE, Int.reduceLT, Int.reduceNeg, Int.reduceBEq, Int.reduceBNe, Nat.reduceMul, Int.reduceAdd, Int.reduceMul, Int.reduceSub, Int.reduceEq, Int.reduceNe]
  refine WF_pure (cCollect _ _ (by have := suits_len s c x s.wicks 0; have := hs.so.lw; omega) (iSuiting s c x hs)) rfl ?_
  simp (config := { maxSteps := 400000 }) only [suitsSpec, if_pos h0', intsPV, go_sem, ↓reduceIte, reduceCtorEq, Nat.reduceEqDiff, Nat.reduceAdd, Nat.reduceLT, Nat.reduceLeDiff, Nat.reduceSub, Int.reduceToNat, Int.reduceLE, Int.reduceLT, Int.reduceNeg, Int.reduceBEq, Int.reduceBNe, Nat.reduceMul, Int.reduceAdd, Int.reduceMul, Int.reduceSub, Int.reduceEq, Int.reduceNe]
theorem cRefSuits (s : Shop) (c : Candle) (x : Wax) (h : askErr s [] c = 0 → Site s c x) : PCall Try.prog 27 [s.pv, c.pv] (.tuple [intsPV (suitsSpec s c x).1, .int .i64 (suitsSpec s c x).2]) := by
  refine pcall_of_wp_frzN draws (fn := Try.f27) (n := 33) (rs := [.tmp 4, .tmp 5]) (by kernel_rfl) rfl rfl rfl ok27 (Nat.le_of_ble_eq_true rfl) ?_
  simp (config := { maxSteps := 400000 }) only [go_sem, ↓reduceIte, reduceCtorEq, Nat.reduceEqDiff, Nat.reduceAdd, Nat.reduceLT, Nat.reduceLeDiff, Nat.reduceSub, Int.reduceToNat, Int.reduceLE, Int.reduceLT, Int.reduceNeg, Int.reduceBEq, Int.reduceBNe, Nat.reduceMul, Int.reduceAdd, Int.reduceMul, Int.reduceSub, Int.reduceEq, Int.reduceNe]
  refine WF_pure (cRefCandle s c) rfl ?_
  simp (config := { maxSteps := 400000 }) only [go_sem, ↓reduceIte, reduceCtorEq, Nat.reduceEqDiff, Nat.reduceAdd, Nat.reduceLT, Nat.reduceLeDiff, Nat.reduceSub, Int.reduceToNat, Int.reduceLE, Int.reduceLT, Int.reduceNeg, Int.reduceBEq, Int.reduceBNe, Nat.reduceMul, Int.reduceAdd, Int.reduceMul, Int.reduceSub, Int.reduceEq, Int.reduceNe]
  cases h0 : (askErr s [] c != 0)
  rotate_left
  · have h0' : ¬ askErr s [] c = 0 := by simpa using h0
    simp (config := { maxSteps := 400000 }) only [suitsSpec, if_neg h0', intsPV, go_sem, ↓reduceIte, reduceCtorEq, Nat.reduceEqDiff, Nat.reduceAdd, Nat.reduceLT, Nat.reduceLeDiff, Nat.reduceSub, Int.reduceToNat, Int.reduceLE, Int.reduceLT, Int.reduceNeg, Int.reduceBEq, Int.reduceBNe, Nat.reduceMul, Int.reduceAdd, Int.reduceMul, Int.reduceSub, Int.reduceEq, Int.reduceNe]
    first | exact .inl (.inl rfl) | exact .inl (.inr ⟨rfl, 1, rfl⟩) | exact .inr ⟨_, _, rfl, rfl, .inl rfl, .inl rfl, trivial⟩ | exact .inr ⟨_, _, rfl, rfl, .inr ⟨rfl, 1, rfl⟩, .inl rfl, trivial⟩ | exact ⟨1, rfl⟩ | (simp; done)
  have h0' : askErr s [] c = 0 := by simpa using h0
  have hs := h h0'
  have lw := hs.so.lw
  simp (config := { maxSteps := 400000 }) only [go_sem, ↓reduceIte, reduceCtorEq, Nat.reduceEqDiff, Nat.reduceAdd, Nat.reduceLT, Nat.reduceLeDiff, Nat.reduceSub, Int.reduceToNat, Int.reduceLE, Int.reduceLT, Int.reduceNeg, Int.reduceBEq, Int.reduceBNe, Nat.reduceMul, Int.reduceAdd, Int.reduceMul, Int.reduceSub, Int.reduceEq, Int.reduceNe]
  refine W_loop_nil 7 1 (by simp (config := { maxSteps := 400000 }) only [go_sem, ↓reduceIte, reduceCtorEq, Nat.reduceEqDiff, Nat.reduceAdd, Nat.reduceLT, Nat.reduceLeDiff, Nat.reduceSub, Int.reduceToNat, Int.reduceLE, Int.reduceLT, Int.reduceNeg, Int.reduceBEq, Int.reduceBNe, Nat.reduceMul, Int.reduceAdd, Int.reduceMul, Int.reduceSub, Int.reduceEq, Int.reduceNe]) ?_
  simp (config := { maxSteps := 400000 }) only [go_sem, ↓reduceIte, reduceCtorEq, Nat.reduceEqDiff, Nat.reduceAdd, Nat.reduceLT, Nat.reduceLeDiff, Nat.reduceSub, Int.reduceToNat, Int.reduceLE, Int.reduceLT, Int.reduceNeg, Int.reduceBEq, Int.reduceBNe, Nat.reduceMul, Int.reduceAdd, Int.reduceMul, Int.reduceSub, Int.reduceEq, Int.reduceNe]
  refine W_loopS [2, 3] (σ := List Wick × List Wick × List Int) (fun q => s.wicks = q.1 ++ q.2.1 ∧ suitsGo s c x s.wicks 0 = q.2.2 ++ suitsGo s c x q.2.1 q.1.length ∧ q.2.2.length ≤ q.1.length) (fun q => q.2.1.length)
    (fun q => [(7, .slice 2 q.2.2.length 0 q.2.2.length), (8, .p (.int .i64 q.1.length))]) (fun q h => h.set 2 (.row 1 (q.2.2.map fun n => .p (.int .i64 n)))) ([], s.wicks, []) ⟨rfl, rfl, Nat.le_refl _⟩ ?_ ?_
  · simp (config := { maxSteps := 400000 }) only [go_sem, ↓reduceIte, reduceCtorEq, Nat.reduceEqDiff, Nat.reduceAdd, Nat.reduceLT, Nat.reduceLeDiff, Nat.reduceSub, Int.reduceToNat, Int.reduceLE, Int.reduceLT, Int.reduceNeg, Int.reduceBEq, Int.reduceBNe, Nat.reduceMul, Int.reduceAdd, Int.reduceMul, Int.reduceSub, Int.reduceEq, Int.reduceNe]
  rintro ⟨done, rest, pre⟩ ⟨e1, e2, e3⟩
  dsimp only at e1 e2 e3
  cases rest with
  | nil =>
    have hlt : ¬ ((done.length : Int) < (s.wicks.length : Int)) := by rw [e1]; simp
    rw [suitsGo, List.append_nil] at e2
    simp (config := { maxSteps := 400000 }) only [hlt, suitsSpec, if_pos h0', intsPV, e2, go_sem, ↓reduceIte, reduceCtorEq, Nat.reduceEqDiff, Nat.reduceAdd, Nat.reduceLT, Nat.reduceLeDiff, Nat.reduceSub, Int.reduceToNat, Int.reduceLE, Int.reduceLT, Int.reduceNeg, Int.reduceBEq, Int.reduceBNe, Nat.reduceMul, Int.reduceAdd, Int.reduceMul, Int.reduceSub, Int.reduceEq, Int.reduceNe]
    first | exact .inl (.inl rfl) | exact .inl (.inr ⟨rfl, 1, rfl⟩) | exact .inr ⟨_, _, rfl, rfl, .inl rfl, .inl rfl, trivial⟩ | exact .inr ⟨_, _, rfl, rfl, .inr ⟨rfl, 1, rfl⟩, .inl rfl, trivial⟩ | exact ⟨1, rfl⟩ | (simp; done)
  | cons w r =>
    obtain ⟨hx, hlt⟩ := list_at e1
    have hnx : IntKind.i64.wrap ((done.length : Int) + 1) = (((done ++ [w]).length : Nat) : Int) := wrap_add (by omega) (by simp [room]; omega) (by simp)
    have hk := site_at hs e1
    have hrm : pre.length + 1 ≤ room := by simp [room]; omega
    rw [suitsGo] at e2
    simp (config := { maxSteps := 400000 }) only [hlt, go_sem, ↓reduceIte, reduceCtorEq, Nat.reduceEqDiff, Nat.reduceAdd, Nat.reduceLT, Nat.reduceLeDiff, Nat.reduceSub, Int.reduceToNat, Int.reduceLE, Int.reduceLT, Int.reduceNeg, Int.reduceBEq, Int.reduceBNe, Nat.reduceMul, Int.reduceAdd, Int.reduceMul, Int.reduceSub, Int.reduceEq, Int.reduceNe]
    refine WF_pure (cListed s c x _ w hs hk) rfl ?_
    simp (config := { maxSteps := 400000 }) only [intsPV, go_sem, ↓reduceIte, reduceCtorEq, Nat.reduceEqDiff, Nat.reduceAdd, Nat.reduceLT, Nat.reduceLeDiff, Nat.reduceSub, Int.reduceToNat, Int.reduceLE, Int.reduceLT, Int.reduceNeg, Int.reduceBEq, Int.reduceBNe, Nat.reduceMul, Int.reduceAdd, Int.reduceMul, Int.reduceSub, Int.reduceEq, Int.reduceNe]
    have hok : ((((faultsOf s c.diameter (leastB w x c) (mostB w x c)).length : Nat) : Int) == 0) = okW s c x w := by
      unfold okW
      rw [Bool.eq_iff_iff]; simp
    rw [hok]
    cases hb : okW s c x w
    · simp (config := { maxSteps := 400000 }) only [go_sem, ↓reduceIte, reduceCtorEq, Nat.reduceEqDiff, Nat.reduceAdd, Nat.reduceLT, Nat.reduceLeDiff, Nat.reduceSub, Int.reduceToNat, Int.reduceLE, Int.reduceLT, Int.reduceNeg, Int.reduceBEq, Int.reduceBNe, Nat.reduceMul, Int.reduceAdd, Int.reduceMul, Int.reduceSub, Int.reduceEq, Int.reduceNe]
      refine WQ_headA (done ++ [w], r, pre) ⟨by simp [e1], by rw [e2, hb]; simp, by simp; omega⟩ (by simp) ?_
      simp (config := { maxSteps := 400000 }) only [hnx, go_sem, ↓reduceIte, reduceCtorEq, Nat.reduceEqDiff, Nat.reduceAdd, Nat.reduceLT, Nat.reduceLeDiff, Nat.reduceSub, Int.reduceToNat, Int.reduceLE, Int.reduceLT, Int.reduceNeg, Int.reduceBEq, Int.reduceBNe, Nat.reduceMul, Int.reduceAdd, Int.reduceMul, Int.reduceSub, Int.reduceEq, Int.reduceNe]
    · rw [hb, if_pos rfl] at e2
      simp (config := { maxSteps := 400000 }) only [hrm, go_sem, ↓reduceIte, reduceCtorEq, Nat.reduceEqDiff, Nat.reduceAdd, Nat.reduceLT, Nat.reduceLeDiff, Nat.reduceSub, Int.reduceToNat, Int.reduceLE, Int.reduceLT, Int.reduceNeg, Int.reduceBEq, Int.reduceBNe, Nat.reduceMul, Int.reduceAdd, Int.reduceMul, Int.reduceSub, Int.reduceEq, Int.reduceNe]
      refine WQ_headA (done ++ [w], r, pre ++ [(done.length : Int)]) ⟨by simp [e1], by rw [e2]; simp, by simp; omega⟩ (by simp) ?_
      simp (config := { maxSteps := 400000 }) only [hnx, List.length_append, List.map_append, go_sem, ↓reduceIte, reduceCtorEq, Nat.reduceEqDiff, Nat.reduceAdd, Nat.reduceLT, Nat.reduceLeDiff, Nat.reduceSub, Int.reduceToNat, Int.reduceLE, Int.reduceLT, Int.reduceNeg, Int.reduceBEq, Int.reduceBNe, Nat.reduceMul, Int.reduceAdd, Int.reduceMul, Int.reduceSub, Int.reduceEq, Int.reduceNe]

end Abs
end Go.Proofs.Ytdgmmijimclooaa

namespace Go.Proofs.Ytdgmmijimclooaa
namespace Abs
set_option linter.unusedSimpArgs false
set_option maxRecDepth 4000

def thr (s : Shop) (n : Int) : Int := match s.wicks[n.toNat]? with | some w => w.threads | none => 0
def bestGo (s : Shop) : List Int → Int → Int
  | [], b => b
  | n :: r, b => bestGo s r (if (decide (b < 0) || decide (thr s n < thr s b)) = true then n else b)
def valid (s : Shop) (n : Int) : Prop := 0 ≤ n ∧ n < (s.wicks.length : Int)
theorem suits_valid (s : Shop) (c : Candle) (x : Wax) : ∀ (l : List Wick) (i : Nat), i + l.length = s.wicks.length → ∀ n, n ∈ suitsGo s c x l i → valid s n
  | [], _, _, n, hn => by cases hn
  | w :: r, i, hi, n, hn => by
    unfold suitsGo at hn
    simp only [List.length_cons] at hi
    split at hn
    · rcases List.mem_cons.1 hn with rfl | hn
      · exact ⟨by omega, by omega⟩
      · exact suits_valid s c x r (i + 1) (by omega) n hn
    · exact suits_valid s c x r (i + 1) (by omega) n hn
theorem valid_at {s : Shop} {n : Int} (h : valid s n) : ∃ w, s.wicks[n.toNat]? = some w ∧ thr s n = w.threads := by
  obtain ⟨w, hw⟩ := at_of h.1 h.2
  exact ⟨w, hw, by simp [thr, hw]⟩
theorem best_valid (s : Shop) : ∀ (l : List Int) (b : Int), (∀ n, n ∈ l → valid s n) → (b = -1 ∨ valid s b) → bestGo s l b = -1 ∨ valid s (bestGo s l b)
  | [], b, _, hb => hb
  | n :: r, b, hl, hb => by
    unfold bestGo
    refine best_valid s r _ (fun m hm => hl m (by simp [hm])) ?_
    split
    · exact .inr (hl n (by simp))
    · exact hb
theorem best_append (s : Shop) : ∀ (l : List Int) (n b : Int), bestGo s (l ++ [n]) b = if (decide (bestGo s l b < 0) || decide (thr s n < thr s (bestGo s l b))) = true then n else bestGo s l b
  | [], n, b => rfl
  | m :: r, n, b => by
    rw [List.cons_append, bestGo, best_append s r n, bestGo]
theorem best_nonneg (s : Shop) : ∀ (l : List Int) (b : Int), (∀ n, n ∈ l → valid s n) → (l ≠ [] ∨ 0 ≤ b) → 0 ≤ bestGo s l b
  | [], b, _, hb => by rcases hb with h | h; exact absurd rfl h; exact h
  | n :: r, b, hl, _ => by
    unfold bestGo
    refine best_nonneg s r _ (fun m hm => hl m (by simp [hm])) (.inr ?_)
    split
    · exact (hl n (by simp)).1
    · rename_i h; simp at h; exact h.1

def thinSpec (s : Shop) (c : Candle) (x : Wax) : Int × Int :=
  if askErr s [] c = 0 then (if bestGo s (suitsGo s c x s.wicks 0) (-1) < 0 then (0, 9) else (bestGo s (suitsGo s c x s.wicks 0) (-1), 0)) else (0, askErr s [] c)
theorem cWickThinnest (s : Shop) (c : Candle) (x : Wax) (h : askErr s [] c = 0 → Site s c x) : PCall Try.prog 28 [s.pv, c.pv] (.tuple [.int .i64 (thinSpec s c x).1, .int .i64 (thinSpec s c x).2]) := by
  refine pcall_of_wp draws (fn := Try.f28) (n := 49) (rs := [.tmp 4, .tmp 5]) (by kernel_rfl) rfl rfl rfl ok28 (Nat.le_of_ble_eq_true rfl) ?_
  simp (config := { maxSteps := 400000 }) only [go_sem, ↓reduceIte, reduceCtorEq, Nat.reduceEqDiff, Nat.reduceAdd, Nat.reduceLT, Nat.reduceLeDiff, Nat.reduceSub, Int.reduceToNat, Int.reduceLE, Int.reduceLT, Int.reduceNeg, Int.reduceBEq, Int.reduceBNe, Nat.reduceMul, Int.reduceAdd, Int.reduceMul, Int.reduceSub, Int.reduceEq, Int.reduceNe]
  refine WF_pure ((cOpen s c [] false _ rfl (by simp) x (fun h0 => (h h0).hx)).argless (args' := [s.pv, c.pv, .nilslice]) ⟨.inl rfl, .inl rfl, .inr ⟨rfl, 1, rfl⟩, trivial⟩) rfl ?_
  by_cases h0' : askErr s [] c = 0
  rotate_left
  · have h0 : (askErr s [] c != 0) = true := by simpa using h0'
    simp (config := { maxSteps := 400000 }) only [h0, thinSpec, if_neg h0', go_sem, ↓reduceIte, reduceCtorEq, Nat.reduceEqDiff, Nat.reduceAdd, Nat.reduceLT, Nat.reduceLeDiff, Nat.reduceSub, Int.reduceToNat, Int.reduceLE, Int.reduceLT, Int.reduceNeg, Int.reduceBEq, Int.reduceBNe, Nat.reduceMul, Int.reduceAdd, Int.reduceMul, Int.reduceSub, Int.reduceEq, Int.reduceNe]
  have h0 : (askErr s [] c != 0) = false := by simpa using h0'
  have hs := h h0'
  simp (config := { maxSteps := 400000 }) only [h0, if_pos h0', go_sem, ↓reduceIte, reduceCtorEq, Nat.reduceEqDiff, Nat.reduceAdd, Nat.reduceLT, Nat.reduceLeDiff, Nat.reduceSub, Int.reduceToNat, Int.reduceLE, Int.reduceLT, Int.reduceNeg, Int.reduceBEq, Int.reduceBNe, Nat.reduceMul, Int.reduceAdd, Int.reduceMul, Int.reduceSub, Int.reduceEq, Int.reduceNe]
  refine WF_pure (cSuiting s c x) rfl ?_
  simp (config := { maxSteps := 400000 }) only [go_sem, ↓reduceIte, reduceCtorEq, Nat.reduceEqDiff, Nat.reduceAdd, Nat.reduceLT, Nat.reduceLeDiff, Nat.reduceSub, Int.reduceToNat, Int.reduceLE, Int.reduceLT, Int.reduceNeg, Int.reduceBEq, Int.reduceBNe, Nat.reduceMul, Int.reduceAdd, Int.reduceMul, Int.reduceSub, Int.reduceEq, Int.reduceNe]
  generalize hl : suitsGo s c x s.wicks 0 = l
  have hval : ∀ n, n ∈ l → valid s n := by
    intro n hn
    rw [← hl] at hn
    exact suits_valid s c x s.wicks 0 (by simp) n hn
  have hit := iSuiting s c x hs
  rw [hl] at hit
  refine W_iter (l := l.map intPV) (fun o k h => k ≤ l.length ∧ h = [.row 6 [.p s.pv], .row 5 [.p c.pv], .row 1 [.p (openPV s c x)], .row 1 [.p (.int .i64 (bestGo s (l.take k) (-1)))], .dblock, o]) (fun _ _ => False)
    rfl (by simp (config := { maxSteps := 400000 }) only [suitPV, go_sem, ↓reduceIte, reduceCtorEq, Nat.reduceEqDiff, Nat.reduceAdd, Nat.reduceLT, Nat.reduceLeDiff, Nat.reduceSub, Int.reduceToNat, Int.reduceLE, Int.reduceLT, Int.reduceNeg, Int.reduceBEq, Int.reduceBNe, Nat.reduceMul, Int.reduceAdd, Int.reduceMul, Int.reduceSub, Int.reduceEq, Int.reduceNe]) hit draws (by kernel_rfl) rfl (by kernel_rfl) (by kernel_rfl) ?_ ?_ ?_ ?_ ?_ (fun _ _ h => h.elim)
  · rintro o k h ⟨_, rfl⟩; simp
  · rintro o k h ⟨_, rfl⟩; simp
  · intro o
    refine ⟨by omega, ?_⟩
    simp (config := { maxSteps := 400000 }) only [go_sem, ↓reduceIte, reduceCtorEq, Nat.reduceEqDiff, Nat.reduceAdd, Nat.reduceLT, Nat.reduceLeDiff, Nat.reduceSub, Int.reduceToNat, Int.reduceLE, Int.reduceLT, Int.reduceNeg, Int.reduceBEq, Int.reduceBNe, Nat.reduceMul, Int.reduceAdd, Int.reduceMul, Int.reduceSub, Int.reduceEq, Int.reduceNe]
    rfl
  · rintro oR oB oD k v h hv ⟨hk, rfl⟩
    have hv' : ∃ n, l[k]? = some n ∧ v = .int .i64 n := by
      rw [List.getElem?_map, Option.map_eq_some_iff] at hv
      obtain ⟨n, h1, rfl⟩ := hv
      exact ⟨n, h1, rfl⟩
    obtain ⟨n, hn, rfl⟩ := hv'
    have hlt : k < l.length := (List.getElem?_eq_some_iff.1 hn).1
    have hnv := hval n (List.mem_of_getElem? hn)
    obtain ⟨w, hw, ht⟩ := valid_at hnv
    have hb := best_append s (l.take k) n (-1)
    rw [← take_snoc hn] at hb
    have hbv := best_valid s (l.take k) (-1) (fun m hm => hval m (List.mem_of_mem_take hm)) (.inl rfl)
    generalize bestGo s (l.take k) (-1) = b at hb hbv
    have n0 := hnv.1
    have n1 := hnv.2
    simp (config := { maxSteps := 400000 }) only [go_sem, ↓reduceIte, reduceCtorEq, Nat.reduceEqDiff, Nat.reduceAdd, Nat.reduceLT, Nat.reduceLeDiff, Nat.reduceSub, Int.reduceToNat, Int.reduceLE, Int.reduceLT, Int.reduceNeg, Int.reduceBEq, Int.reduceBNe, Nat.reduceMul, Int.reduceAdd, Int.reduceMul, Int.reduceSub, Int.reduceEq, Int.reduceNe]
    cases hneg : decide (b < 0)
    · have hbv' : valid s b := by
        rcases hbv with h | h
        · rw [h] at hneg; simp at hneg
        · exact h
      obtain ⟨w2, hw2, ht2⟩ := valid_at hbv'
      have b0 := hbv'.1
      have b1 := hbv'.2
      rw [hneg, ht, ht2] at hb
      simp (config := { maxSteps := 400000 }) only [n0, n1, b0, b1, hw, hw2, go_sem, ↓reduceIte, reduceCtorEq, Nat.reduceEqDiff, Nat.reduceAdd, Nat.reduceLT, Nat.reduceLeDiff, Nat.reduceSub, Int.reduceToNat, Int.reduceLE, Int.reduceLT, Int.reduceNeg, Int.reduceBEq, Int.reduceBNe, Nat.reduceMul, Int.reduceAdd, Int.reduceMul, Int.reduceSub, Int.reduceEq, Int.reduceNe]
      cases hlt2 : decide (w.threads < w2.threads)
      · rw [hlt2] at hb
        simp (config := { maxSteps := 400000 }) only [hb, go_sem, ↓reduceIte, reduceCtorEq, Nat.reduceEqDiff, Nat.reduceAdd, Nat.reduceLT, Nat.reduceLeDiff, Nat.reduceSub, Int.reduceToNat, Int.reduceLE, Int.reduceLT, Int.reduceNeg, Int.reduceBEq, Int.reduceBNe, Nat.reduceMul, Int.reduceAdd, Int.reduceMul, Int.reduceSub, Int.reduceEq, Int.reduceNe]
        exact .inl hlt
      · rw [hlt2] at hb
        simp (config := { maxSteps := 400000 }) only [hb, go_sem, ↓reduceIte, reduceCtorEq, Nat.reduceEqDiff, Nat.reduceAdd, Nat.reduceLT, Nat.reduceLeDiff, Nat.reduceSub, Int.reduceToNat, Int.reduceLE, Int.reduceLT, Int.reduceNeg, Int.reduceBEq, Int.reduceBNe, Nat.reduceMul, Int.reduceAdd, Int.reduceMul, Int.reduceSub, Int.reduceEq, Int.reduceNe]
        exact .inl hlt
    · rw [hneg] at hb
      simp (config := { maxSteps := 400000 }) only [hb, go_sem, ↓reduceIte, reduceCtorEq, Nat.reduceEqDiff, Nat.reduceAdd, Nat.reduceLT, Nat.reduceLeDiff, Nat.reduceSub, Int.reduceToNat, Int.reduceLE, Int.reduceLT, Int.reduceNeg, Int.reduceBEq, Int.reduceBNe, Nat.reduceMul, Int.reduceAdd, Int.reduceMul, Int.reduceSub, Int.reduceEq, Int.reduceNe]
      exact .inl hlt
  · rintro o h ⟨_, rfl⟩
    have h1 : l.take (l.map intPV).length = l := by simp
    rw [h1]
    simp (config := { maxSteps := 400000 }) only [leave_collected, go_sem, ↓reduceIte, reduceCtorEq, Nat.reduceEqDiff, Nat.reduceAdd, Nat.reduceLT, Nat.reduceLeDiff, Nat.reduceSub, Int.reduceToNat, Int.reduceLE, Int.reduceLT, Int.reduceNeg, Int.reduceBEq, Int.reduceBNe, Nat.reduceMul, Int.reduceAdd, Int.reduceMul, Int.reduceSub, Int.reduceEq, Int.reduceNe]
    cases hneg : decide (bestGo s l (-1) < 0)
    · have : ¬ bestGo s l (-1) < 0 := by simpa using hneg
      simp (config := { maxSteps := 400000 }) only [thinSpec, if_pos h0', hl, if_neg this, leave_collected, go_sem, ↓reduceIte, reduceCtorEq, Nat.reduceEqDiff, Nat.reduceAdd, Nat.reduceLT, Nat.reduceLeDiff, Nat.reduceSub, Int.reduceToNat, Int.reduceLE, Int.reduceLT, Int.reduceNeg, Int.reduceBEq, Int.reduceBNe, Nat.reduceMul, Int.reduceAdd, Int.reduceMul, Int.reduceSub, Int.reduceEq, Int.reduceNe]
    · have : bestGo s l (-1) < 0 := by simpa using hneg
      simp (config := { maxSteps := 400000 }) only [thinSpec, if_pos h0', hl, if_pos this, leave_collected, go_sem, ↓reduceIte, reduceCtorEq, Nat.reduceEqDiff, Nat.reduceAdd, Nat.reduceLT, Nat.reduceLeDiff, Nat.reduceSub, Int.reduceToNat, Int.reduceLE, Int.reduceLT, Int.reduceNeg, Int.reduceBEq, Int.reduceBNe, Nat.reduceMul, Int.reduceAdd, Int.reduceMul, Int.reduceSub, Int.reduceEq, Int.reduceNe]

theorem cRefThinnest (s : Shop) (c : Candle) (x : Wax) (h : askErr s [] c = 0 → Site s c x) : PCall Try.prog 29 [s.pv, c.pv] (.tuple [.int .i64 (thinSpec s c x).1, .int .i64 (thinSpec s c x).2]) := by
  refine pcall_of_wp draws (fn := Try.f29) (n := 56) (rs := [.tmp 4, .tmp 5]) (by kernel_rfl) rfl rfl rfl ok29 (Nat.le_of_ble_eq_true rfl) ?_
  simp (config := { maxSteps := 400000 }) only [go_sem, ↓reduceIte, reduceCtorEq, Nat.reduceEqDiff, Nat.reduceAdd, Nat.reduceLT, Nat.reduceLeDiff, Nat.reduceSub, Int.reduceToNat, Int.reduceLE, Int.reduceLT, Int.reduceNeg, Int.reduceBEq, Int.reduceBNe, Nat.reduceMul, Int.reduceAdd, Int.reduceMul, Int.reduceSub, Int.reduceEq, Int.reduceNe]
  refine WF_pure (cRefSuits s c x h) rfl ?_
  simp (config := { maxSteps := 400000 }) only [intsPV, go_sem, ↓reduceIte, reduceCtorEq, Nat.reduceEqDiff, Nat.reduceAdd, Nat.reduceLT, Nat.reduceLeDiff, Nat.reduceSub, Int.reduceToNat, Int.reduceLE, Int.reduceLT, Int.reduceNeg, Int.reduceBEq, Int.reduceBNe, Nat.reduceMul, Int.reduceAdd, Int.reduceMul, Int.reduceSub, Int.reduceEq, Int.reduceNe]
  cases h0 : (askErr s [] c == 0)
  · have h0' : ¬ askErr s [] c = 0 := by simpa using h0
    have h0n : (askErr s [] c != 0) = true := by simp [bne, h0]
    simp (config := { maxSteps := 400000 }) only [suitsSpec, if_neg h0', h0, h0n, thinSpec, go_sem, ↓reduceIte, reduceCtorEq, Nat.reduceEqDiff, Nat.reduceAdd, Nat.reduceLT, Nat.reduceLeDiff, Nat.reduceSub, Int.reduceToNat, Int.reduceLE, Int.reduceLT, Int.reduceNeg, Int.reduceBEq, Int.reduceBNe, Nat.reduceMul, Int.reduceAdd, Int.reduceMul, Int.reduceSub, Int.reduceEq, Int.reduceNe]
  have h0' : askErr s [] c = 0 := by simpa using h0
  have hs := h h0'
  simp (config := { maxSteps := 400000 }) only [suitsSpec, if_pos h0', go_sem, ↓reduceIte, reduceCtorEq, Nat.reduceEqDiff, Nat.reduceAdd, Nat.reduceLT, Nat.reduceLeDiff, Nat.reduceSub, Int.reduceToNat, Int.reduceLE, Int.reduceLT, Int.reduceNeg, Int.reduceBEq, Int.reduceBNe, Nat.reduceMul, Int.reduceAdd, Int.reduceMul, Int.reduceSub, Int.reduceEq, Int.reduceNe]
  have hlen := suits_len s c x s.wicks 0
  have lw := hs.so.lw
  have hval := suits_valid s c x s.wicks 0 (by simp)
  have hsp : thinSpec s c x = if bestGo s (suitsGo s c x s.wicks 0) (-1) < 0 then (0, 9) else (bestGo s (suitsGo s c x s.wicks 0) (-1), 0) := by rw [thinSpec, if_pos h0']
  rw [hsp]
  generalize suitsGo s c x s.wicks 0 = l at hlen hval
  cases l with
  | nil => simp (config := { maxSteps := 400000 }) only [bestGo, go_sem, ↓reduceIte, reduceCtorEq, Nat.reduceEqDiff, Nat.reduceAdd, Nat.reduceLT, Nat.reduceLeDiff, Nat.reduceSub, Int.reduceToNat, Int.reduceLE, Int.reduceLT, Int.reduceNeg, Int.reduceBEq, Int.reduceBNe, Nat.reduceMul, Int.reduceAdd, Int.reduceMul, Int.reduceSub, Int.reduceEq, Int.reduceNe]
  | cons a t =>
    have hne : ¬ bestGo s (a :: t) (-1) < 0 := by have := best_nonneg s (a :: t) (-1) hval (.inl (by simp)); omega
    rw [if_neg hne]
    obtain ⟨l, hl⟩ : ∃ l, l = a :: t := ⟨_, rfl⟩
    rw [← hl] at hval hlen ⊢
    have e0 : (((l.length : Nat) : Int) == 0) = false := by rw [hl]; simp <;> omega
    have e1 : (0 : Int) < ((l.length : Nat) : Int) := by rw [hl]; simp <;> omega
    have e2 : l[0]? = some a := by rw [hl]; rfl
    simp (config := { maxSteps := 400000 }) only [e0, e1, e2, go_sem, ↓reduceIte, reduceCtorEq, Nat.reduceEqDiff, Nat.reduceAdd, Nat.reduceLT, Nat.reduceLeDiff, Nat.reduceSub, Int.reduceToNat, Int.reduceLE, Int.reduceLT, Int.reduceNeg, Int.reduceBEq, Int.reduceBNe, Nat.reduceMul, Int.reduceAdd, Int.reduceMul, Int.reduceSub, Int.reduceEq, Int.reduceNe]
    have hstart : bestGo s l (-1) = bestGo s t a := by rw [hl]; simp [bestGo]
    rw [hstart]
    refine W_loopH [2, 6] (σ := List Int × List Int × Int) (fun q => l = q.1 ++ q.2.1 ∧ bestGo s t a = bestGo s q.2.1 q.2.2 ∧ valid s q.2.2) (fun q => q.2.1.length) (fun q => [(8, .p (.int .i64 q.2.2)), (9, .p (.int .i64 q.1.length))]) ([a], t, a) ⟨hl, rfl, hval a (by rw [hl]; simp)⟩ ?_ ?_
    · simp (config := { maxSteps := 400000 }) only [go_sem, ↓reduceIte, reduceCtorEq, Nat.reduceEqDiff, Nat.reduceAdd, Nat.reduceLT, Nat.reduceLeDiff, Nat.reduceSub, Int.reduceToNat, Int.reduceLE, Int.reduceLT, Int.reduceNeg, Int.reduceBEq, Int.reduceBNe, Nat.reduceMul, Int.reduceAdd, Int.reduceMul, Int.reduceSub, Int.reduceEq, Int.reduceNe]
    rintro ⟨done, rest, b⟩ ⟨e3, e4, e5⟩
    dsimp only at e3 e4 e5
    cases rest with
    | nil =>
      have hlt : ¬ ((done.length : Int) < ((l.length : Nat) : Int)) := by rw [e3]; simp
      simp (config := { maxSteps := 400000 }) only [hlt, go_sem, ↓reduceIte, reduceCtorEq, Nat.reduceEqDiff, Nat.reduceAdd, Nat.reduceLT, Nat.reduceLeDiff, Nat.reduceSub, Int.reduceToNat, Int.reduceLE, Int.reduceLT, Int.reduceNeg, Int.reduceBEq, Int.reduceBNe, Nat.reduceMul, Int.reduceAdd, Int.reduceMul, Int.reduceSub, Int.reduceEq, Int.reduceNe]
      rw [e4]; rfl
    | cons n r =>
      obtain ⟨hx, hlt⟩ := list_at e3
      have hnx : IntKind.i64.wrap ((done.length : Int) + 1) = (((done ++ [n]).length : Nat) : Int) := wrap_add (by omega) (by simp [room]; omega) (by simp)
      have hnv := hval n (by rw [e3]; simp)
      obtain ⟨w, hw, ht⟩ := valid_at hnv
      obtain ⟨w2, hw2, ht2⟩ := valid_at e5
      have n0 := hnv.1
      have n1 := hnv.2
      have b0 := e5.1
      have b1 := e5.2
      have hneg : decide (b < 0) = false := by simp; exact b0
      rw [bestGo, hneg, ht, ht2] at e4
      simp (config := { maxSteps := 400000 }) only [hlt, hx, n0, n1, b0, b1, hw, hw2, go_sem, ↓reduceIte, reduceCtorEq, Nat.reduceEqDiff, Nat.reduceAdd, Nat.reduceLT, Nat.reduceLeDiff, Nat.reduceSub, Int.reduceToNat, Int.reduceLE, Int.reduceLT, Int.reduceNeg, Int.reduceBEq, Int.reduceBNe, Nat.reduceMul, Int.reduceAdd, Int.reduceMul, Int.reduceSub, Int.reduceEq, Int.reduceNe]
      cases hlt2 : decide (w.threads < w2.threads)
      · rw [hlt2] at e4
        simp (config := { maxSteps := 400000 }) only [go_sem, ↓reduceIte, reduceCtorEq, Nat.reduceEqDiff, Nat.reduceAdd, Nat.reduceLT, Nat.reduceLeDiff, Nat.reduceSub, Int.reduceToNat, Int.reduceLE, Int.reduceLT, Int.reduceNeg, Int.reduceBEq, Int.reduceBNe, Nat.reduceMul, Int.reduceAdd, Int.reduceMul, Int.reduceSub, Int.reduceEq, Int.reduceNe]
        refine WQ_headA (done ++ [n], r, b) ⟨by simp [e3], by rw [e4]; rfl, e5⟩ (by simp) ?_
        simp (config := { maxSteps := 400000 }) only [hnx, go_sem, ↓reduceIte, reduceCtorEq, Nat.reduceEqDiff, Nat.reduceAdd, Nat.reduceLT, Nat.reduceLeDiff, Nat.reduceSub, Int.reduceToNat, Int.reduceLE, Int.reduceLT, Int.reduceNeg, Int.reduceBEq, Int.reduceBNe, Nat.reduceMul, Int.reduceAdd, Int.reduceMul, Int.reduceSub, Int.reduceEq, Int.reduceNe]
      · rw [hlt2] at e4
        simp (config := { maxSteps := 400000 }) only [hlt, hx, n0, n1, b0, b1, hw, hw2, go_sem, ↓reduceIte, reduceCtorEq, Nat.reduceEqDiff, Nat.reduceAdd, Nat.reduceLT, Nat.reduceLeDiff, Nat.reduceSub, Int.reduceToNat, Int.reduceLE, Int.reduceLT, Int.reduceNeg, Int.reduceBEq, Int.reduceBNe, Nat.reduceMul, Int.reduceAdd, Int.reduceMul, Int.reduceSub, Int.reduceEq, Int.reduceNe]
        refine WQ_headA (done ++ [n], r, n) ⟨by simp [e3], by rw [e4]; rfl, hnv⟩ (by simp) ?_
        simp (config := { maxSteps := 400000 }) only [hnx, go_sem, ↓reduceIte, reduceCtorEq, Nat.reduceEqDiff, Nat.reduceAdd, Nat.reduceLT, Nat.reduceLeDiff, Nat.reduceSub, Int.reduceToNat, Int.reduceLE, Int.reduceLT, Int.reduceNeg, Int.reduceBEq, Int.reduceBNe, Nat.reduceMul, Int.reduceAdd, Int.reduceMul, Int.reduceSub, Int.reduceEq, Int.reduceNe]

end Abs
end Go.Proofs.Ytdgmmijimclooaa
