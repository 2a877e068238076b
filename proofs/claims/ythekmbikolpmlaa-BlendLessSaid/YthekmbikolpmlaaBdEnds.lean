/-
  CONTRACTS: what a blend melts and shrinks at, what it costs; Value, Made, Weigh, Raise; in the program and in the reference.
-/
import Derived.Test.YthekmbikolpmlaaBdVal
namespace Go.Proofs.Ythekmbikolpmlaa
namespace Abs
set_option linter.unusedSimpArgs false
set_option maxRecDepth 4000

theorem cWhole1 {of : PV} (i : Int) (p : BdWax × Int) (v : Int) (h : App Try.prog of [partPV p] (.int .i64 v)) : PCall Try.prog 92 [.int .i64 i, partPV p, .ptr 1 [of] 0 0] (.int .i64 v) := by
  refine pcall_of_wp draws (fn := Try.f92) (n := 9) (rs := [.tmp 5]) (by kernel_rfl) rfl rfl rfl ok92 (Nat.le_of_ble_eq_true rfl) ?_
  obtain ⟨g, first, cap, rfl, hc⟩ := h
  simp (config := { maxSteps := 400000 }) only [go_sem, ↓reduceIte, reduceCtorEq, Nat.reduceEqDiff, Nat.reduceAdd, Nat.reduceLT, Nat.reduceLeDiff, Nat.reduceSub, Int.reduceToNat, Int.reduceLE, Int.reduceLT, Int.reduceNeg, Int.reduceBEq, Int.reduceBNe, Nat.reduceMul, Int.reduceAdd, Int.reduceMul, Int.reduceSub, Int.reduceEq, Int.reduceNe]
  refine WF_pure hc (by simp [partPV]) ?_
  simp (config := { maxSteps := 400000 }) only [go_sem, ↓reduceIte, reduceCtorEq, Nat.reduceEqDiff, Nat.reduceAdd, Nat.reduceLT, Nat.reduceLeDiff, Nat.reduceSub, Int.reduceToNat, Int.reduceLE, Int.reduceLT, Int.reduceNeg, Int.reduceBEq, Int.reduceBNe, Nat.reduceMul, Int.reduceAdd, Int.reduceMul, Int.reduceSub, Int.reduceEq, Int.reduceNe]
theorem cWhole {of : PV} (ps : Ps) (f : BdWax × Int → Int) (b : Bool) (hl : ps.length ≤ 5) (hof : ∀ p, p ∈ ps → App Try.prog of [partPV p] (.int .i64 (f p)) ∧ -1000000000 ≤ f p ∧ f p ≤ 1000000000) (hne : ∃ g first cap, of = .func (.func g) first cap) :
    PCall Try.prog 62 [.slice 8 (ps.map partPV) b, of] (.int .i64 (sumP f ps)) := by
  refine pcall_of_wp draws (fn := Try.f62) (n := 8) (rs := [.tmp 4]) (by kernel_rfl) rfl rfl rfl ok62 (Nat.le_of_ble_eq_true rfl) ?_
  obtain ⟨g, first, cap, rfl⟩ := hne
  simp (config := { maxSteps := 400000 }) only [go_sem, ↓reduceIte, reduceCtorEq, Nat.reduceEqDiff, Nat.reduceAdd, Nat.reduceLT, Nat.reduceLeDiff, Nat.reduceSub, Int.reduceToNat, Int.reduceLE, Int.reduceLT, Int.reduceNeg, Int.reduceBEq, Int.reduceBNe, Nat.reduceMul, Int.reduceAdd, Int.reduceMul, Int.reduceSub, Int.reduceEq, Int.reduceNe]
  refine WF_frz (cBdSum1 (fv := .func (.func 92) [] [.ptr 1 [.func (.func g) first cap] 0 0]) ps (fun _ p => f p) b 8 rfl (by omega) fun i p hi => ⟨⟨_, _, _, rfl, cWhole1 i p _ (hof p (List.mem_of_getElem? hi)).1⟩, (hof p (List.mem_of_getElem? hi)).2⟩) ?_ (.int _ _) ?_
  · simp (config := { maxSteps := 400000 }) only [go_sem, ↓reduceIte, reduceCtorEq, Nat.reduceEqDiff, Nat.reduceAdd, Nat.reduceLT, Nat.reduceLeDiff, Nat.reduceSub, Int.reduceToNat, Int.reduceLE, Int.reduceLT, Int.reduceNeg, Int.reduceBEq, Int.reduceBNe, Nat.reduceMul, Int.reduceAdd, Int.reduceMul, Int.reduceSub, Int.reduceEq, Int.reduceNe]
  · simp (config := { maxSteps := 400000 }) only [go_sem, ↓reduceIte, reduceCtorEq, Nat.reduceEqDiff, Nat.reduceAdd, Nat.reduceLT, Nat.reduceLeDiff, Nat.reduceSub, Int.reduceToNat, Int.reduceLE, Int.reduceLT, Int.reduceNeg, Int.reduceBEq, Int.reduceBNe, Nat.reduceMul, Int.reduceAdd, Int.reduceMul, Int.reduceSub, Int.reduceEq, Int.reduceNe]
    rw [sumI_eq]; rfl
theorem cWhole_softest (ps : Ps) (b : Bool) (h : PsOk ps) : PCall Try.prog 62 [.slice 8 (ps.map partPV) b, .func (.func 87) [] []] (.int .i64 (sumP fSoft ps)) :=
  cWhole ps fSoft b h.len (fun p hp => ⟨⟨_, _, _, rfl, cPart_softest p (h.wax p hp)⟩, by have := parts_bd (h.wax p hp); omega⟩) ⟨_, _, _, rfl⟩
theorem cWhole_hardest (ps : Ps) (b : Bool) (h : PsOk ps) : PCall Try.prog 62 [.slice 8 (ps.map partPV) b, .func (.func 88) [] []] (.int .i64 (sumP fHard ps)) :=
  cWhole ps fHard b h.len (fun p hp => ⟨⟨_, _, _, rfl, cPart_hardest p (h.wax p hp)⟩, by have := parts_bd (h.wax p hp); omega⟩) ⟨_, _, _, rfl⟩
theorem cWhole_least (ps : Ps) (b : Bool) (h : PsOk ps) : PCall Try.prog 62 [.slice 8 (ps.map partPV) b, .func (.func 89) [] []] (.int .i64 (sumP fLeast ps)) :=
  cWhole ps fLeast b h.len (fun p hp => ⟨⟨_, _, _, rfl, cPart_least p (h.wax p hp)⟩, by have := parts_bd (h.wax p hp); omega⟩) ⟨_, _, _, rfl⟩
theorem cWhole_most (ps : Ps) (b : Bool) (h : PsOk ps) : PCall Try.prog 62 [.slice 8 (ps.map partPV) b, .func (.func 90) [] []] (.int .i64 (sumP fMost ps)) :=
  cWhole ps fMost b h.len (fun p hp => ⟨⟨_, _, _, rfl, cPart_most p (h.wax p hp)⟩, by have := parts_bd (h.wax p hp); omega⟩) ⟨_, _, _, rfl⟩
theorem cWhole_price (ps : Ps) (b : Bool) (h : PsOk ps) : PCall Try.prog 62 [.slice 8 (ps.map partPV) b, .func (.func 63) [] []] (.int .i64 (sumP fPrice ps)) :=
  cWhole ps fPrice b h.len (fun p hp => ⟨⟨_, _, _, rfl, cPart_price p (h.wax p hp)⟩, by have := parts_bd (h.wax p hp); omega⟩) ⟨_, _, _, rfl⟩
theorem cWhole_raise (ps : Ps) (b : Bool) (h : PsOk ps) : PCall Try.prog 62 [.slice 8 (ps.map partPV) b, .func (.func 66) [] []] (.int .i64 (sumP fRaise ps)) :=
  cWhole ps fRaise b h.len (fun p hp => ⟨⟨_, _, _, rfl, cPart_raise p (h.wax p hp)⟩, by have := parts_bd (h.wax p hp); omega⟩) ⟨_, _, _, rfl⟩
theorem sums_bd {ps : Ps} (h : PsOk ps) : (0 ≤ sumP fSoft ps ∧ sumP fSoft ps ≤ 200000) ∧ (0 ≤ sumP fHard ps ∧ sumP fHard ps ≤ 200000) ∧ (0 ≤ sumP fLeast ps ∧ sumP fLeast ps ≤ 100000) ∧ (0 ≤ sumP fMost ps ∧ sumP fMost ps ≤ 100000) ∧ (0 ≤ sumP fPrice ps ∧ sumP fPrice ps ≤ 10000000) ∧ -30000 ≤ sumP fRaise ps ∧ sumP fRaise ps ≤ 30000 := by
  have hl := h.len
  have key : ∀ (f : BdWax × Int → Int) (b : Int), 0 ≤ b → (∀ p, p ∈ ps → 0 ≤ f p ∧ f p ≤ b) → 0 ≤ sumP f ps ∧ sumP f ps ≤ 5 * b := fun f b hb hf => by
    have h1 := sumP_bd hf
    have h2 := (sumP_five (f := f) hl hb fun p hp => by have := hf p hp; omega).2
    omega
  refine ⟨key _ 40000 (by omega) fun p hp => (parts_bd (h.wax p hp)).1, key _ 40000 (by omega) fun p hp => (parts_bd (h.wax p hp)).2.1, key _ 20000 (by omega) fun p hp => (parts_bd (h.wax p hp)).2.2.1, key _ 20000 (by omega) fun p hp => (parts_bd (h.wax p hp)).2.2.2.1, key _ 2000000 (by omega) fun p hp => (parts_bd (h.wax p hp)).2.2.2.2.1, ?_⟩
  exact sumP_five (b := 6000) hl (by omega) fun p hp => (parts_bd (h.wax p hp)).2.2.2.2.2
/-- 20 times what a blend melts and shrinks at, at least and at most -/
def meltP (ps : Ps) : Span := ⟨sumP fSoft ps + sumP fRaise ps, sumP fHard ps + sumP fRaise ps⟩
def shrinkP (ps : Ps) : Span := ⟨sumP fLeast ps, sumP fMost ps⟩
set_option maxHeartbeats 1000000 in
theorem cEnds (ps : Ps) (b : Bool) (h : PsOk ps) : PCall Try.prog 60 [.slice 8 (ps.map partPV) b] (.tuple [(meltP ps).pv, (shrinkP ps).pv]) := by
  refine pcall_of_wp draws (fn := Try.f60) (n := 34) (rs := [.cell 2 36, .cell 3 36]) (by kernel_rfl) rfl rfl rfl ok60 (Nat.le_of_ble_eq_true rfl) ?_
  have hb := sums_bd h
  have w1 : IntKind.i64.wrap (sumP fSoft ps + sumP fRaise ps) = sumP fSoft ps + sumP fRaise ps := wrap_in (by omega) (by omega)
  have w2 : IntKind.i64.wrap (sumP fHard ps + sumP fRaise ps) = sumP fHard ps + sumP fRaise ps := wrap_in (by omega) (by omega)
  simp (config := { maxSteps := 400000 }) only [H60, W_drawH, go_sem, ↓reduceIte, reduceCtorEq, Nat.reduceEqDiff, Nat.reduceAdd, Nat.reduceLT, Nat.reduceLeDiff, Nat.reduceSub, Int.reduceToNat, Int.reduceLE, Int.reduceLT, Int.reduceNeg, Int.reduceBEq, Int.reduceBNe, Nat.reduceMul, Int.reduceAdd, Int.reduceMul, Int.reduceSub, Int.reduceEq, Int.reduceNe]
  refine W_unroll ?_
  simp (config := { maxSteps := 400000 }) only [go_sem, ↓reduceIte, reduceCtorEq, Nat.reduceEqDiff, Nat.reduceAdd, Nat.reduceLT, Nat.reduceLeDiff, Nat.reduceSub, Int.reduceToNat, Int.reduceLE, Int.reduceLT, Int.reduceNeg, Int.reduceBEq, Int.reduceBNe, Nat.reduceMul, Int.reduceAdd, Int.reduceMul, Int.reduceSub, Int.reduceEq, Int.reduceNe]
  refine WF_pure (cWhole_softest ps b h) rfl ?_
  simp (config := { maxSteps := 400000 }) only [go_sem, ↓reduceIte, reduceCtorEq, Nat.reduceEqDiff, Nat.reduceAdd, Nat.reduceLT, Nat.reduceLeDiff, Nat.reduceSub, Int.reduceToNat, Int.reduceLE, Int.reduceLT, Int.reduceNeg, Int.reduceBEq, Int.reduceBNe, Nat.reduceMul, Int.reduceAdd, Int.reduceMul, Int.reduceSub, Int.reduceEq, Int.reduceNe]
  refine W_unroll ?_
  simp (config := { maxSteps := 400000 }) only [go_sem, ↓reduceIte, reduceCtorEq, Nat.reduceEqDiff, Nat.reduceAdd, Nat.reduceLT, Nat.reduceLeDiff, Nat.reduceSub, Int.reduceToNat, Int.reduceLE, Int.reduceLT, Int.reduceNeg, Int.reduceBEq, Int.reduceBNe, Nat.reduceMul, Int.reduceAdd, Int.reduceMul, Int.reduceSub, Int.reduceEq, Int.reduceNe]
  refine WF_pure (cWhole_hardest ps b h) rfl ?_
  simp (config := { maxSteps := 400000 }) only [go_sem, ↓reduceIte, reduceCtorEq, Nat.reduceEqDiff, Nat.reduceAdd, Nat.reduceLT, Nat.reduceLeDiff, Nat.reduceSub, Int.reduceToNat, Int.reduceLE, Int.reduceLT, Int.reduceNeg, Int.reduceBEq, Int.reduceBNe, Nat.reduceMul, Int.reduceAdd, Int.reduceMul, Int.reduceSub, Int.reduceEq, Int.reduceNe]
  refine W_unroll ?_
  simp (config := { maxSteps := 400000 }) only [go_sem, ↓reduceIte, reduceCtorEq, Nat.reduceEqDiff, Nat.reduceAdd, Nat.reduceLT, Nat.reduceLeDiff, Nat.reduceSub, Int.reduceToNat, Int.reduceLE, Int.reduceLT, Int.reduceNeg, Int.reduceBEq, Int.reduceBNe, Nat.reduceMul, Int.reduceAdd, Int.reduceMul, Int.reduceSub, Int.reduceEq, Int.reduceNe]
  refine WF_pure (cWhole_least ps b h) rfl ?_
  simp (config := { maxSteps := 400000 }) only [go_sem, ↓reduceIte, reduceCtorEq, Nat.reduceEqDiff, Nat.reduceAdd, Nat.reduceLT, Nat.reduceLeDiff, Nat.reduceSub, Int.reduceToNat, Int.reduceLE, Int.reduceLT, Int.reduceNeg, Int.reduceBEq, Int.reduceBNe, Nat.reduceMul, Int.reduceAdd, Int.reduceMul, Int.reduceSub, Int.reduceEq, Int.reduceNe]
  refine W_unroll ?_
  simp (config := { maxSteps := 400000 }) only [go_sem, ↓reduceIte, reduceCtorEq, Nat.reduceEqDiff, Nat.reduceAdd, Nat.reduceLT, Nat.reduceLeDiff, Nat.reduceSub, Int.reduceToNat, Int.reduceLE, Int.reduceLT, Int.reduceNeg, Int.reduceBEq, Int.reduceBNe, Nat.reduceMul, Int.reduceAdd, Int.reduceMul, Int.reduceSub, Int.reduceEq, Int.reduceNe]
  refine WF_pure (cWhole_most ps b h) rfl ?_
  simp (config := { maxSteps := 400000 }) only [go_sem, ↓reduceIte, reduceCtorEq, Nat.reduceEqDiff, Nat.reduceAdd, Nat.reduceLT, Nat.reduceLeDiff, Nat.reduceSub, Int.reduceToNat, Int.reduceLE, Int.reduceLT, Int.reduceNeg, Int.reduceBEq, Int.reduceBNe, Nat.reduceMul, Int.reduceAdd, Int.reduceMul, Int.reduceSub, Int.reduceEq, Int.reduceNe]
  refine W_unroll ?_
  simp (config := { maxSteps := 400000 }) only [go_sem, ↓reduceIte, reduceCtorEq, Nat.reduceEqDiff, Nat.reduceAdd, Nat.reduceLT, Nat.reduceLeDiff, Nat.reduceSub, Int.reduceToNat, Int.reduceLE, Int.reduceLT, Int.reduceNeg, Int.reduceBEq, Int.reduceBNe, Nat.reduceMul, Int.reduceAdd, Int.reduceMul, Int.reduceSub, Int.reduceEq, Int.reduceNe]
  refine WF_pure (cWhole_raise ps b h) rfl ?_
  simp (config := { maxSteps := 400000 }) only [go_sem, ↓reduceIte, reduceCtorEq, Nat.reduceEqDiff, Nat.reduceAdd, Nat.reduceLT, Nat.reduceLeDiff, Nat.reduceSub, Int.reduceToNat, Int.reduceLE, Int.reduceLT, Int.reduceNeg, Int.reduceBEq, Int.reduceBNe, Nat.reduceMul, Int.reduceAdd, Int.reduceMul, Int.reduceSub, Int.reduceEq, Int.reduceNe]
  refine W_unroll ?_
  simp (config := { maxSteps := 400000 }) only [H60, W_drawH, w1, w2, meltP, shrinkP, go_sem, ↓reduceIte, reduceCtorEq, Nat.reduceEqDiff, Nat.reduceAdd, Nat.reduceLT, Nat.reduceLeDiff, Nat.reduceSub, Int.reduceToNat, Int.reduceLE, Int.reduceLT, Int.reduceNeg, Int.reduceBEq, Int.reduceBNe, Nat.reduceMul, Int.reduceAdd, Int.reduceMul, Int.reduceSub, Int.reduceEq, Int.reduceNe]

/-! the reference's -/
theorem cRefRaised (ps : Ps) (b1 b2 : Bool) (h : PsOk ps) : PCall Try.prog 70 [.slice 7 (ps.map fun p => p.1.pv) b1, .slice 1 (ps.map fun p => intPV p.2) b2] (.int .i64 (sumP fRaise ps)) := by
  refine pcall_of_wp draws (fn := Try.f70) (n := 27) (rs := [.tmp 4]) (by kernel_rfl) rfl rfl rfl ok70 (Nat.le_of_ble_eq_true rfl) ?_
  have hl := h.len
  simp (config := { maxSteps := 400000 }) only [go_sem, ↓reduceIte, reduceCtorEq, Nat.reduceEqDiff, Nat.reduceAdd, Nat.reduceLT, Nat.reduceLeDiff, Nat.reduceSub, Int.reduceToNat, Int.reduceLE, Int.reduceLT, Int.reduceNeg, Int.reduceBEq, Int.reduceBNe, Nat.reduceMul, Int.reduceAdd, Int.reduceMul, Int.reduceSub, Int.reduceEq, Int.reduceNe]
  refine W_rangeH [0, 1] ps (by omega) (τ := Int) (fun done rest n => sumP fRaise ps = n + sumP fRaise rest ∧ -10000000 * (done.length : Int) ≤ n ∧ n ≤ 10000000 * (done.length : Int)) (fun done n => [(6, .p (.int .i64 done.length)), (5, .p (.int .i64 n))]) 0 ⟨by simp, by simp, by simp⟩ ?_ ?_ ?_
  · simp (config := { maxSteps := 400000 }) only [go_sem, ↓reduceIte, reduceCtorEq, Nat.reduceEqDiff, Nat.reduceAdd, Nat.reduceLT, Nat.reduceLeDiff, Nat.reduceSub, Int.reduceToNat, Int.reduceLE, Int.reduceLT, Int.reduceNeg, Int.reduceBEq, Int.reduceBNe, Nat.reduceMul, Int.reduceAdd, Int.reduceMul, Int.reduceSub, Int.reduceEq, Int.reduceNe] <;> simp
  · rintro n ⟨e2, _⟩
    simp (config := { maxSteps := 400000 }) only [go_sem, ↓reduceIte, reduceCtorEq, Nat.reduceEqDiff, Nat.reduceAdd, Nat.reduceLT, Nat.reduceLeDiff, Nat.reduceSub, Int.reduceToNat, Int.reduceLE, Int.reduceLT, Int.reduceNeg, Int.reduceBEq, Int.reduceBNe, Nat.reduceMul, Int.reduceAdd, Int.reduceMul, Int.reduceSub, Int.reduceEq, Int.reduceNe]
    rw [e2]; simp [sumP]
  · rintro done x r n e1 ⟨e2, e3, e4⟩ hx hlt hnx
    have hxk := h.wax x (by rw [e1]; simp)
    have hb := parts_bd hxk
    have hw : IntKind.i64.wrap (fRaise x) = fRaise x := wrap_in (by omega) (by omega)
    have hw2 : IntKind.i64.wrap (n + fRaise x) = n + fRaise x := wrap_in (by omega) (by omega)
    have e5 : sumP fRaise (x :: r) = fRaise x + sumP fRaise r := by simp [sumP]
    have hnext : ∀ k, k = n + fRaise x → sumP fRaise ps = k + sumP fRaise r ∧ -10000000 * ((done ++ [x]).length : Int) ≤ k ∧ k ≤ 10000000 * ((done ++ [x]).length : Int) := by
      rintro k rfl
      refine ⟨by rw [e2, e5]; omega, by simp; omega, by simp; omega⟩
    unfold fRaise at hw hw2
    simp (config := { maxSteps := 400000 }) only [hlt, hx, go_sem, ↓reduceIte, reduceCtorEq, Nat.reduceEqDiff, Nat.reduceAdd, Nat.reduceLT, Nat.reduceLeDiff, Nat.reduceSub, Int.reduceToNat, Int.reduceLE, Int.reduceLT, Int.reduceNeg, Int.reduceBEq, Int.reduceBNe, Nat.reduceMul, Int.reduceAdd, Int.reduceMul, Int.reduceSub, Int.reduceEq, Int.reduceNe]
    first
      | (refine WDQ_pure (cRefAdd x.1.curve false x.2 hxk.1.curve) rfl ?_
         simp (config := { maxSteps := 400000 }) only [hw, hw2, go_sem, ↓reduceIte, reduceCtorEq, Nat.reduceEqDiff, Nat.reduceAdd, Nat.reduceLT, Nat.reduceLeDiff, Nat.reduceSub, Int.reduceToNat, Int.reduceLE, Int.reduceLT, Int.reduceNeg, Int.reduceBEq, Int.reduceBNe, Nat.reduceMul, Int.reduceAdd, Int.reduceMul, Int.reduceSub, Int.reduceEq, Int.reduceNe]
         refine WQ_next e1 (n + fRaise x) (hnext _ rfl) ?_
         simp (config := { maxSteps := 400000 }) only [hnx, fRaise, go_sem, ↓reduceIte, reduceCtorEq, Nat.reduceEqDiff, Nat.reduceAdd, Nat.reduceLT, Nat.reduceLeDiff, Nat.reduceSub, Int.reduceToNat, Int.reduceLE, Int.reduceLT, Int.reduceNeg, Int.reduceBEq, Int.reduceBNe, Nat.reduceMul, Int.reduceAdd, Int.reduceMul, Int.reduceSub, Int.reduceEq, Int.reduceNe])
      | (simp (config := { maxSteps := 400000 }) only [hw, hw2, go_sem, ↓reduceIte, reduceCtorEq, Nat.reduceEqDiff, Nat.reduceAdd, Nat.reduceLT, Nat.reduceLeDiff, Nat.reduceSub, Int.reduceToNat, Int.reduceLE, Int.reduceLT, Int.reduceNeg, Int.reduceBEq, Int.reduceBNe, Nat.reduceMul, Int.reduceAdd, Int.reduceMul, Int.reduceSub, Int.reduceEq, Int.reduceNe]
         refine WQ_next e1 (n + fRaise x) (hnext _ rfl) ?_
         simp (config := { maxSteps := 400000 }) only [hnx, fRaise, go_sem, ↓reduceIte, reduceCtorEq, Nat.reduceEqDiff, Nat.reduceAdd, Nat.reduceLT, Nat.reduceLeDiff, Nat.reduceSub, Int.reduceToNat, Int.reduceLE, Int.reduceLT, Int.reduceNeg, Int.reduceBEq, Int.reduceBNe, Nat.reduceMul, Int.reduceAdd, Int.reduceMul, Int.reduceSub, Int.reduceEq, Int.reduceNe])
      | (refine WQ_next e1 (n + fRaise x) (hnext _ rfl) ?_
         simp (config := { maxSteps := 400000 }) only [hnx, hw, hw2, fRaise, go_sem, ↓reduceIte, reduceCtorEq, Nat.reduceEqDiff, Nat.reduceAdd, Nat.reduceLT, Nat.reduceLeDiff, Nat.reduceSub, Int.reduceToNat, Int.reduceLE, Int.reduceLT, Int.reduceNeg, Int.reduceBEq, Int.reduceBNe, Nat.reduceMul, Int.reduceAdd, Int.reduceMul, Int.reduceSub, Int.reduceEq, Int.reduceNe])
theorem cRefPrice (ps : Ps) (b1 b2 : Bool) (h : PsOk ps) : PCall Try.prog 44 [.slice 7 (ps.map fun p => p.1.pv) b1, .slice 1 (ps.map fun p => intPV p.2) b2] (.int .i64 (sumP fPrice ps)) := by
  refine pcall_of_wp draws (fn := Try.f44) (n := 26) (rs := [.tmp 4]) (by kernel_rfl) rfl rfl rfl ok44 (Nat.le_of_ble_eq_true rfl) ?_
  have hl := h.len
  simp (config := { maxSteps := 400000 }) only [go_sem, ↓reduceIte, reduceCtorEq, Nat.reduceEqDiff, Nat.reduceAdd, Nat.reduceLT, Nat.reduceLeDiff, Nat.reduceSub, Int.reduceToNat, Int.reduceLE, Int.reduceLT, Int.reduceNeg, Int.reduceBEq, Int.reduceBNe, Nat.reduceMul, Int.reduceAdd, Int.reduceMul, Int.reduceSub, Int.reduceEq, Int.reduceNe]
  refine W_rangeH [0, 1] ps (by omega) (τ := Int) (fun done rest n => sumP fPrice ps = n + sumP fPrice rest ∧ -10000000 * (done.length : Int) ≤ n ∧ n ≤ 10000000 * (done.length : Int)) (fun done n => [(6, .p (.int .i64 done.length)), (5, .p (.int .i64 n))]) 0 ⟨by simp, by simp, by simp⟩ ?_ ?_ ?_
  · simp (config := { maxSteps := 400000 }) only [go_sem, ↓reduceIte, reduceCtorEq, Nat.reduceEqDiff, Nat.reduceAdd, Nat.reduceLT, Nat.reduceLeDiff, Nat.reduceSub, Int.reduceToNat, Int.reduceLE, Int.reduceLT, Int.reduceNeg, Int.reduceBEq, Int.reduceBNe, Nat.reduceMul, Int.reduceAdd, Int.reduceMul, Int.reduceSub, Int.reduceEq, Int.reduceNe] <;> simp
  · rintro n ⟨e2, _⟩
    simp (config := { maxSteps := 400000 }) only [go_sem, ↓reduceIte, reduceCtorEq, Nat.reduceEqDiff, Nat.reduceAdd, Nat.reduceLT, Nat.reduceLeDiff, Nat.reduceSub, Int.reduceToNat, Int.reduceLE, Int.reduceLT, Int.reduceNeg, Int.reduceBEq, Int.reduceBNe, Nat.reduceMul, Int.reduceAdd, Int.reduceMul, Int.reduceSub, Int.reduceEq, Int.reduceNe]
    rw [e2]; simp [sumP]
  · rintro done x r n e1 ⟨e2, e3, e4⟩ hx hlt hnx
    have hxk := h.wax x (by rw [e1]; simp)
    have hb := parts_bd hxk
    have hw : IntKind.i64.wrap (fPrice x) = fPrice x := wrap_in (by omega) (by omega)
    have hw2 : IntKind.i64.wrap (n + fPrice x) = n + fPrice x := wrap_in (by omega) (by omega)
    have e5 : sumP fPrice (x :: r) = fPrice x + sumP fPrice r := by simp [sumP]
    have hnext : ∀ k, k = n + fPrice x → sumP fPrice ps = k + sumP fPrice r ∧ -10000000 * ((done ++ [x]).length : Int) ≤ k ∧ k ≤ 10000000 * ((done ++ [x]).length : Int) := by
      rintro k rfl
      refine ⟨by rw [e2, e5]; omega, by simp; omega, by simp; omega⟩
    unfold fPrice at hw hw2
    simp (config := { maxSteps := 400000 }) only [hlt, hx, go_sem, ↓reduceIte, reduceCtorEq, Nat.reduceEqDiff, Nat.reduceAdd, Nat.reduceLT, Nat.reduceLeDiff, Nat.reduceSub, Int.reduceToNat, Int.reduceLE, Int.reduceLT, Int.reduceNeg, Int.reduceBEq, Int.reduceBNe, Nat.reduceMul, Int.reduceAdd, Int.reduceMul, Int.reduceSub, Int.reduceEq, Int.reduceNe]
    first
      | (refine WDQ_pure (cRefAdd x.1.curve false x.2 hxk.1.curve) rfl ?_
         simp (config := { maxSteps := 400000 }) only [hw, hw2, go_sem, ↓reduceIte, reduceCtorEq, Nat.reduceEqDiff, Nat.reduceAdd, Nat.reduceLT, Nat.reduceLeDiff, Nat.reduceSub, Int.reduceToNat, Int.reduceLE, Int.reduceLT, Int.reduceNeg, Int.reduceBEq, Int.reduceBNe, Nat.reduceMul, Int.reduceAdd, Int.reduceMul, Int.reduceSub, Int.reduceEq, Int.reduceNe]
         refine WQ_next e1 (n + fPrice x) (hnext _ rfl) ?_
         simp (config := { maxSteps := 400000 }) only [hnx, fPrice, go_sem, ↓reduceIte, reduceCtorEq, Nat.reduceEqDiff, Nat.reduceAdd, Nat.reduceLT, Nat.reduceLeDiff, Nat.reduceSub, Int.reduceToNat, Int.reduceLE, Int.reduceLT, Int.reduceNeg, Int.reduceBEq, Int.reduceBNe, Nat.reduceMul, Int.reduceAdd, Int.reduceMul, Int.reduceSub, Int.reduceEq, Int.reduceNe])
      | (simp (config := { maxSteps := 400000 }) only [hw, hw2, go_sem, ↓reduceIte, reduceCtorEq, Nat.reduceEqDiff, Nat.reduceAdd, Nat.reduceLT, Nat.reduceLeDiff, Nat.reduceSub, Int.reduceToNat, Int.reduceLE, Int.reduceLT, Int.reduceNeg, Int.reduceBEq, Int.reduceBNe, Nat.reduceMul, Int.reduceAdd, Int.reduceMul, Int.reduceSub, Int.reduceEq, Int.reduceNe]
         refine WQ_next e1 (n + fPrice x) (hnext _ rfl) ?_
         simp (config := { maxSteps := 400000 }) only [hnx, fPrice, go_sem, ↓reduceIte, reduceCtorEq, Nat.reduceEqDiff, Nat.reduceAdd, Nat.reduceLT, Nat.reduceLeDiff, Nat.reduceSub, Int.reduceToNat, Int.reduceLE, Int.reduceLT, Int.reduceNeg, Int.reduceBEq, Int.reduceBNe, Nat.reduceMul, Int.reduceAdd, Int.reduceMul, Int.reduceSub, Int.reduceEq, Int.reduceNe])
      | (refine WQ_next e1 (n + fPrice x) (hnext _ rfl) ?_
         simp (config := { maxSteps := 400000 }) only [hnx, hw, hw2, fPrice, go_sem, ↓reduceIte, reduceCtorEq, Nat.reduceEqDiff, Nat.reduceAdd, Nat.reduceLT, Nat.reduceLeDiff, Nat.reduceSub, Int.reduceToNat, Int.reduceLE, Int.reduceLT, Int.reduceNeg, Int.reduceBEq, Int.reduceBNe, Nat.reduceMul, Int.reduceAdd, Int.reduceMul, Int.reduceSub, Int.reduceEq, Int.reduceNe])
set_option maxHeartbeats 1000000 in
theorem cRefEnds (ps : Ps) (b1 b2 : Bool) (h : PsOk ps) : PCall Try.prog 65 [.slice 7 (ps.map fun p => p.1.pv) b1, .slice 1 (ps.map fun p => intPV p.2) b2] (.tuple [(meltP ps).pv, (shrinkP ps).pv]) := by
  refine pcall_of_wp draws (fn := Try.f65) (n := 83) (rs := [.cell 4 36, .cell 5 36]) (by kernel_rfl) rfl rfl rfl ok65 (Nat.le_of_ble_eq_true rfl) ?_
  have hl := h.len
  have hb := sums_bd h
  simp (config := { maxSteps := 400000 }) only [H65, W_drawH, go_sem, ↓reduceIte, reduceCtorEq, Nat.reduceEqDiff, Nat.reduceAdd, Nat.reduceLT, Nat.reduceLeDiff, Nat.reduceSub, Int.reduceToNat, Int.reduceLE, Int.reduceLT, Int.reduceNeg, Int.reduceBEq, Int.reduceBNe, Nat.reduceMul, Int.reduceAdd, Int.reduceMul, Int.reduceSub, Int.reduceEq, Int.reduceNe]
  refine WF_pure (cRefRaised ps b1 b2 h) rfl ?_
  simp (config := { maxSteps := 400000 }) only [go_sem, ↓reduceIte, reduceCtorEq, Nat.reduceEqDiff, Nat.reduceAdd, Nat.reduceLT, Nat.reduceLeDiff, Nat.reduceSub, Int.reduceToNat, Int.reduceLE, Int.reduceLT, Int.reduceNeg, Int.reduceBEq, Int.reduceBNe, Nat.reduceMul, Int.reduceAdd, Int.reduceMul, Int.reduceSub, Int.reduceEq, Int.reduceNe]
  refine W_rangeA [0, 1, 4, 5, 7, 8] ps (by omega) (τ := (Int × Int) × (Int × Int)) (fun done rest q => (sumP fSoft ps + sumP fRaise ps = q.1.1 + sumP fSoft rest ∧ sumP fHard ps + sumP fRaise ps = q.1.2 + sumP fHard rest ∧ sumP fLeast ps = q.2.1 + sumP fLeast rest ∧ sumP fMost ps = q.2.2 + sumP fMost rest) ∧
      (-30000 ≤ q.1.1 ∧ q.1.1 ≤ 30000 + 40000 * (done.length : Int)) ∧ (-30000 ≤ q.1.2 ∧ q.1.2 ≤ 30000 + 40000 * (done.length : Int)) ∧ (0 ≤ q.2.1 ∧ q.2.1 ≤ 20000 * (done.length : Int)) ∧ (0 ≤ q.2.2 ∧ q.2.2 ≤ 20000 * (done.length : Int)))
    (fun done _ => [(9, .p (.int .i64 done.length))])
    (fun _ q => [.row 2 [.p (.agg [.int .i64 0, .int .i64 0])], .row 2 [.p (.agg [.int .i64 0, .int .i64 0])], .row 2 [.p (.agg [.int .i64 q.1.1, .int .i64 q.1.2])], .row 2 [.p (.agg [.int .i64 q.2.1, .int .i64 q.2.2])]])
    ((sumP fRaise ps, sumP fRaise ps), (0, 0)) ⟨⟨by simp [Int.add_comm], by simp [Int.add_comm], by simp, by simp⟩, by simp; omega, by simp; omega, by simp, by simp⟩ ?_ ?_ ?_
  · simp (config := { maxSteps := 400000 }) only [go_sem, ↓reduceIte, reduceCtorEq, Nat.reduceEqDiff, Nat.reduceAdd, Nat.reduceLT, Nat.reduceLeDiff, Nat.reduceSub, Int.reduceToNat, Int.reduceLE, Int.reduceLT, Int.reduceNeg, Int.reduceBEq, Int.reduceBNe, Nat.reduceMul, Int.reduceAdd, Int.reduceMul, Int.reduceSub, Int.reduceEq, Int.reduceNe] <;> simp
  · rintro ⟨⟨a, b⟩, c, d⟩ ⟨⟨e1, e2, e3, e4⟩, _⟩
    simp [sumP] at e1 e2 e3 e4
    simp (config := { maxSteps := 400000 }) only [H65, W_drawH, meltP, shrinkP, go_sem, ↓reduceIte, reduceCtorEq, Nat.reduceEqDiff, Nat.reduceAdd, Nat.reduceLT, Nat.reduceLeDiff, Nat.reduceSub, Int.reduceToNat, Int.reduceLE, Int.reduceLT, Int.reduceNeg, Int.reduceBEq, Int.reduceBNe, Nat.reduceMul, Int.reduceAdd, Int.reduceMul, Int.reduceSub, Int.reduceEq, Int.reduceNe]
    simp [sumP, e1, e2, e3, e4]
  · rintro done x r ⟨⟨a, b⟩, c, d⟩ e1 ⟨⟨g1, g2, g3, g4⟩, i1, i2, i3, i4⟩ hx hlt hnx
    dsimp only at g1 g2 g3 g4 i1 i2 i3 i4
    have hxk := h.wax x (by rw [e1]; simp)
    have hq := parts_bd hxk
    have e5 : ∀ f : BdWax × Int → Int, sumP f (x :: r) = f x + sumP f r := fun f => by simp [sumP]
    rw [e5] at g1 g2 g3 g4
    have w1 : IntKind.i64.wrap (fSoft x) = fSoft x := wrap_in (by omega) (by omega)
    have w2 : IntKind.i64.wrap (fHard x) = fHard x := wrap_in (by omega) (by omega)
    have w3 : IntKind.i64.wrap (fLeast x) = fLeast x := wrap_in (by omega) (by omega)
    have w4 : IntKind.i64.wrap (fMost x) = fMost x := wrap_in (by omega) (by omega)
    have v1 : IntKind.i64.wrap (a + fSoft x) = a + fSoft x := wrap_in (by omega) (by omega)
    have v2 : IntKind.i64.wrap (b + fHard x) = b + fHard x := wrap_in (by omega) (by omega)
    have v3 : IntKind.i64.wrap (c + fLeast x) = c + fLeast x := wrap_in (by omega) (by omega)
    have v4 : IntKind.i64.wrap (d + fMost x) = d + fMost x := wrap_in (by omega) (by omega)
    have hnext : ∀ q : (Int × Int) × (Int × Int), q = ((a + fSoft x, b + fHard x), (c + fLeast x, d + fMost x)) → (sumP fSoft ps + sumP fRaise ps = q.1.1 + sumP fSoft r ∧ sumP fHard ps + sumP fRaise ps = q.1.2 + sumP fHard r ∧ sumP fLeast ps = q.2.1 + sumP fLeast r ∧ sumP fMost ps = q.2.2 + sumP fMost r) ∧
      (-30000 ≤ q.1.1 ∧ q.1.1 ≤ 30000 + 40000 * ((done ++ [x]).length : Int)) ∧ (-30000 ≤ q.1.2 ∧ q.1.2 ≤ 30000 + 40000 * ((done ++ [x]).length : Int)) ∧ (0 ≤ q.2.1 ∧ q.2.1 ≤ 20000 * ((done ++ [x]).length : Int)) ∧ (0 ≤ q.2.2 ∧ q.2.2 ≤ 20000 * ((done ++ [x]).length : Int)) := by
      rintro q rfl
      dsimp only
      refine ⟨⟨by omega, by omega, by omega, by omega⟩, ?_, ?_, ?_, ?_⟩ <;> simp <;> omega
    unfold fSoft at w1 v1
    unfold fHard at w2 v2
    unfold fLeast at w3 v3
    unfold fMost at w4 v4
    simp (config := { maxSteps := 400000 }) only [H65, W_drawH, hlt, hx, w1, w2, w3, w4, v1, v2, v3, v4, go_sem, ↓reduceIte, reduceCtorEq, Nat.reduceEqDiff, Nat.reduceAdd, Nat.reduceLT, Nat.reduceLeDiff, Nat.reduceSub, Int.reduceToNat, Int.reduceLE, Int.reduceLT, Int.reduceNeg, Int.reduceBEq, Int.reduceBNe, Nat.reduceMul, Int.reduceAdd, Int.reduceMul, Int.reduceSub, Int.reduceEq, Int.reduceNe]
    refine WQ_next e1 ((a + fSoft x, b + fHard x), (c + fLeast x, d + fMost x)) (hnext _ rfl) ?_
    simp (config := { maxSteps := 400000 }) only [hnx, fSoft, fHard, fLeast, fMost, go_sem, ↓reduceIte, reduceCtorEq, Nat.reduceEqDiff, Nat.reduceAdd, Nat.reduceLT, Nat.reduceLeDiff, Nat.reduceSub, Int.reduceToNat, Int.reduceLE, Int.reduceLT, Int.reduceNeg, Int.reduceBEq, Int.reduceBNe, Nat.reduceMul, Int.reduceAdd, Int.reduceMul, Int.reduceSub, Int.reduceEq, Int.reduceNe]
end Abs
end Go.Proofs.Ythekmbikolpmlaa
