/-
  CONTRACTS: the law BlendCurves.
-/
import Derived.Test.YthekmbikolpmlaaBdLaw4
namespace Go.Proofs.Ythekmbikolpmlaa
namespace Abs
set_option linter.unusedSimpArgs false
set_option linter.unusedVariables false
set_option maxRecDepth 100000

theorem below_pre {pre post : List BdPoint} {p : BdPoint} (h : CurveOk (pre ++ p :: post)) : ∀ q, q ∈ pre → q.parts < p.parts := fun q hq => (List.pairwise_append.1 h.up).2.2 q hq p (by simp)
theorem add_point {c pre post : List BdPoint} {p : BdPoint} (hc : CurveOk c) (e : c = pre ++ p :: post) : addS c p.parts = p.add := by
  subst e
  have hb := below_pre hc
  rcases List.eq_nil_or_concat pre with rfl | ⟨q, a, hq⟩
  · rw [List.nil_append, addS, if_pos (Int.le_refl _)]
  · rw [List.concat_eq_append] at hq
    subst hq
    rw [List.append_assoc, List.singleton_append, addS_pre q a (p :: post) hb, addGo, if_pos (Int.le_refl _), onLine]
    have := hb a (by simp)
    rw [Int.mul_ediv_cancel _ (by omega)]
    omega
theorem add_between {c pre post : List BdPoint} {a b : BdPoint} {n : Int} (hc : CurveOk c) (e : c = pre ++ a :: b :: post) (h1 : a.parts < n) (h2 : n < b.parts) :
    (a.add ≤ b.add → a.add ≤ addS c n ∧ addS c n ≤ b.add) ∧ (b.add ≤ a.add → b.add ≤ addS c n ∧ addS c n ≤ a.add) := by
  subst e
  have hb := below_pre hc
  rw [addS_pre pre a (b :: post) (fun p hp => by
    rcases List.mem_append.1 hp with hp | hp
    · have := hb p hp; omega
    · simp at hp; subst hp; exact h1), addGo, if_pos (by omega)]
  exact (line_bd (hc.pt a (by simp)) (hc.pt b (by simp)) (by omega) (by omega) (by omega)).2.2
theorem add_first {c post : List BdPoint} {a : BdPoint} {n : Int} (e : c = a :: post) (h : n < a.parts) : addS c n = a.add := by
  subst e; rw [addS, if_pos (by omega)]
theorem add_last {c pre : List BdPoint} {a : BdPoint} {n : Int} (hc : CurveOk c) (e : c = pre ++ [a]) (h : a.parts < n) : addS c n = a.add := by
  subst e
  have hb := below_pre (post := []) hc
  rw [addS_pre pre a [] (fun p hp => by
    rcases List.mem_append.1 hp with hp | hp
    · have := hb p hp; omega
    · simp at hp; subst hp; exact h), addGo]
set_option maxHeartbeats 4000000 in
theorem lBlendCurves (l : List BdWax) (a : Int) (ha : 0 ≤ a ∧ a ≤ 255) : PCall Try.prog 13 [bdWaxes l, .int .u8 a] (.bool true) := by
  refine pcall_of_wp draws (fn := Try.f13) (n := 175) (rs := [.tmp 4]) (by kernel_rfl) rfl rfl rfl ok13 (Nat.le_of_ble_eq_true rfl) ?_
  simp (config := { maxSteps := 400000 }) only [go_sem, ↓reduceIte, reduceCtorEq, Nat.reduceEqDiff, Nat.reduceAdd, Nat.reduceLT, Nat.reduceLeDiff, Nat.reduceSub, Int.reduceToNat, Int.reduceLE, Int.reduceLT, Int.reduceNeg, Int.reduceBEq, Int.reduceBNe, Nat.reduceMul, Int.reduceAdd, Int.reduceMul, Int.reduceSub, Int.reduceEq, Int.reduceNe]
  (first | refine WF_pure (cValid l) rfl ?_ | refine WDQ_pure (cValid l) rfl ?_)
  simp (config := { maxSteps := 400000 }) only [go_sem, ↓reduceIte, reduceCtorEq, Nat.reduceEqDiff, Nat.reduceAdd, Nat.reduceLT, Nat.reduceLeDiff, Nat.reduceSub, Int.reduceToNat, Int.reduceLE, Int.reduceLT, Int.reduceNeg, Int.reduceBEq, Int.reduceBNe, Nat.reduceMul, Int.reduceAdd, Int.reduceMul, Int.reduceSub, Int.reduceEq, Int.reduceNe]
  cases he : (bdE l == 0)
  · have he' : ¬ bdE l = 0 := by simpa using he
    have hne : (bdE l != 0) = true := by simp [bne, he]
    have hv : bdRaise l 0 0 = (0, bdE l) := by rw [bdRaise, if_neg he']
    simp (config := { maxSteps := 400000 }) only [go_sem, ↓reduceIte, reduceCtorEq, Nat.reduceEqDiff, Nat.reduceAdd, Nat.reduceLT, Nat.reduceLeDiff, Nat.reduceSub, Int.reduceToNat, Int.reduceLE, Int.reduceLT, Int.reduceNeg, Int.reduceBEq, Int.reduceBNe, Nat.reduceMul, Int.reduceAdd, Int.reduceMul, Int.reduceSub, Int.reduceEq, Int.reduceNe]
    (first | refine WF_pure (cRaise l 0 0) rfl ?_ | refine WDQ_pure (cRaise l 0 0) rfl ?_)
    simp (config := { maxSteps := 400000 }) only [pairPV, hv, hne, go_sem, ↓reduceIte, reduceCtorEq, Nat.reduceEqDiff, Nat.reduceAdd, Nat.reduceLT, Nat.reduceLeDiff, Nat.reduceSub, Int.reduceToNat, Int.reduceLE, Int.reduceLT, Int.reduceNeg, Int.reduceBEq, Int.reduceBNe, Nat.reduceMul, Int.reduceAdd, Int.reduceMul, Int.reduceSub, Int.reduceEq, Int.reduceNe]
    (first | refine WF_pure (cAwake) rfl ?_ | refine WDQ_pure (cAwake) rfl ?_)
    simp (config := { maxSteps := 400000 }) only [go_sem, ↓reduceIte, reduceCtorEq, Nat.reduceEqDiff, Nat.reduceAdd, Nat.reduceLT, Nat.reduceLeDiff, Nat.reduceSub, Int.reduceToNat, Int.reduceLE, Int.reduceLT, Int.reduceNeg, Int.reduceBEq, Int.reduceBNe, Nat.reduceMul, Int.reduceAdd, Int.reduceMul, Int.reduceSub, Int.reduceEq, Int.reduceNe]
  have he' : bdE l = 0 := by simpa using he
  have hl := bdWaxesOk_of he'
  have hl5 := hl.len
  have hw8 : IntKind.i64.wrap a = a := wrap_in (by omega) (by omega)
  have hlz : ¬ ((l.length : Nat) : Int) = 0 := by omega
  have hkm : a.tmod (l.length : Int) = a % (l.length : Int) := Int.tmod_eq_emod_of_nonneg ha.1
  have k1 := Int.emod_nonneg a hlz
  have k2 := Int.emod_lt_of_pos a (show 0 < (l.length : Int) by omega)
  generalize a % (l.length : Int) = k at k1 k2 hkm
  obtain ⟨y, hy⟩ : ∃ y, l[k.toNat]? = some y := ⟨_, List.getElem?_eq_getElem (by omega)⟩
  have hc := (hl.wax y (List.mem_of_getElem? hy)).curve
  have hclen := hc.len
  have hg : gIn k 0 ((l.length : Int) - 1) = true := by simp [gIn]; omega
  have hv : ∀ n : Nat, n ≤ 20 → bdRaise l k n = (addS y.curve n, 0) := fun n hn => by
    have hgn : gIn (n : Int) 0 20 = true := by simp [gIn]; omega
    rw [bdRaise, if_pos he', if_pos hg, if_pos hgn, hy]
  simp (config := { maxSteps := 400000 }) only [hw8, hlz, hkm, k1, k2, hy, go_sem, ↓reduceIte, reduceCtorEq, Nat.reduceEqDiff, Nat.reduceAdd, Nat.reduceLT, Nat.reduceLeDiff, Nat.reduceSub, Int.reduceToNat, Int.reduceLE, Int.reduceLT, Int.reduceNeg, Int.reduceBEq, Int.reduceBNe, Nat.reduceMul, Int.reduceAdd, Int.reduceMul, Int.reduceSub, Int.reduceEq, Int.reduceNe]
  obtain ⟨c, hcd⟩ : ∃ c, c = y.curve := ⟨_, rfl⟩
  rw [← hcd] at hc hclen hv
  rw [← hcd]
  refine W_loopH [0, 7, 8] (σ := Nat) (fun n => n ≤ 21) (fun n => 21 - n) (fun n => [(9, .p (.int .i64 n))]) 0 (by omega) ?_ ?_
  · simp (config := { maxSteps := 400000 }) only [go_sem, ↓reduceIte, reduceCtorEq, Nat.reduceEqDiff, Nat.reduceAdd, Nat.reduceLT, Nat.reduceLeDiff, Nat.reduceSub, Int.reduceToNat, Int.reduceLE, Int.reduceLT, Int.reduceNeg, Int.reduceBEq, Int.reduceBNe, Nat.reduceMul, Int.reduceAdd, Int.reduceMul, Int.reduceSub, Int.reduceEq, Int.reduceNe]
  intro n hn
  rcases Nat.lt_or_ge 20 n with h20 | h20
  · have hgt : ¬ ((n : Nat) : Int) ≤ 20 := by omega
    simp (config := { maxSteps := 400000 }) only [hgt, go_sem, ↓reduceIte, reduceCtorEq, Nat.reduceEqDiff, Nat.reduceAdd, Nat.reduceLT, Nat.reduceLeDiff, Nat.reduceSub, Int.reduceToNat, Int.reduceLE, Int.reduceLT, Int.reduceNeg, Int.reduceBEq, Int.reduceBNe, Nat.reduceMul, Int.reduceAdd, Int.reduceMul, Int.reduceSub, Int.reduceEq, Int.reduceNe]
    (first | refine WF_pure (cAwake) rfl ?_ | refine WDQ_pure (cAwake) rfl ?_)
    simp (config := { maxSteps := 400000 }) only [go_sem, ↓reduceIte, reduceCtorEq, Nat.reduceEqDiff, Nat.reduceAdd, Nat.reduceLT, Nat.reduceLeDiff, Nat.reduceSub, Int.reduceToNat, Int.reduceLE, Int.reduceLT, Int.reduceNeg, Int.reduceBEq, Int.reduceBNe, Nat.reduceMul, Int.reduceAdd, Int.reduceMul, Int.reduceSub, Int.reduceEq, Int.reduceNe]
  have hle : ((n : Nat) : Int) ≤ 20 := by omega
  have hnx : IntKind.i64.wrap ((n : Int) + 1) = ((n + 1 : Nat) : Int) := wrap_add (by omega) (by simp [room]; omega) (by omega)
  simp (config := { maxSteps := 400000 }) only [hle, go_sem, ↓reduceIte, reduceCtorEq, Nat.reduceEqDiff, Nat.reduceAdd, Nat.reduceLT, Nat.reduceLeDiff, Nat.reduceSub, Int.reduceToNat, Int.reduceLE, Int.reduceLT, Int.reduceNeg, Int.reduceBEq, Int.reduceBNe, Nat.reduceMul, Int.reduceAdd, Int.reduceMul, Int.reduceSub, Int.reduceEq, Int.reduceNe]
  (first | refine WF_pure (cRaise l k n) rfl ?_ | refine WDQ_pure (cRaise l k n) rfl ?_)
  simp (config := { maxSteps := 400000 }) only [pairPV, hv n h20, go_sem, ↓reduceIte, reduceCtorEq, Nat.reduceEqDiff, Nat.reduceAdd, Nat.reduceLT, Nat.reduceLeDiff, Nat.reduceSub, Int.reduceToNat, Int.reduceLE, Int.reduceLT, Int.reduceNeg, Int.reduceBEq, Int.reduceBNe, Nat.reduceMul, Int.reduceAdd, Int.reduceMul, Int.reduceSub, Int.reduceEq, Int.reduceNe]
  have hempty : (((c.length : Nat) : Int) == 0) = true → (addS c n != 0) = false := fun h => by
    have : c = [] := by simpa using h
    subst this; rfl
  have loop : ∀ b, (((c.length : Nat) : Int) == 0) = b → True := fun _ _ => trivial
  cases hce : (((c.length : Nat) : Int) == 0)
  · simp (config := { maxSteps := 400000 }) only [hce, hce, go_sem, ↓reduceIte, reduceCtorEq, Nat.reduceEqDiff, Nat.reduceAdd, Nat.reduceLT, Nat.reduceLeDiff, Nat.reduceSub, Int.reduceToNat, Int.reduceLE, Int.reduceLT, Int.reduceNeg, Int.reduceBEq, Int.reduceBNe, Nat.reduceMul, Int.reduceAdd, Int.reduceMul, Int.reduceSub, Int.reduceEq, Int.reduceNe]
    refine W_rangeH [0, 7, 8, 9, 10] c (by omega) (τ := Unit) (fun _ _ _ => True) (fun done _ => [(12, .p (.int .i64 done.length))]) () trivial ?_ ?_ ?_
    · simp (config := { maxSteps := 400000 }) only [go_sem, ↓reduceIte, reduceCtorEq, Nat.reduceEqDiff, Nat.reduceAdd, Nat.reduceLT, Nat.reduceLeDiff, Nat.reduceSub, Int.reduceToNat, Int.reduceLE, Int.reduceLT, Int.reduceNeg, Int.reduceBEq, Int.reduceBNe, Nat.reduceMul, Int.reduceAdd, Int.reduceMul, Int.reduceSub, Int.reduceEq, Int.reduceNe] <;> simp
    · intro _ _
      cases hcc : c with
      | nil =>
        simp (config := { maxSteps := 400000 }) only [go_sem, ↓reduceIte, reduceCtorEq, Nat.reduceEqDiff, Nat.reduceAdd, Nat.reduceLT, Nat.reduceLeDiff, Nat.reduceSub, Int.reduceToNat, Int.reduceLE, Int.reduceLT, Int.reduceNeg, Int.reduceBEq, Int.reduceBNe, Nat.reduceMul, Int.reduceAdd, Int.reduceMul, Int.reduceSub, Int.reduceEq, Int.reduceNe]
        refine WQ_headA (n + 1) (by omega) (by omega) ?_
        simp (config := { maxSteps := 400000 }) only [hnx, go_sem, ↓reduceIte, reduceCtorEq, Nat.reduceEqDiff, Nat.reduceAdd, Nat.reduceLT, Nat.reduceLeDiff, Nat.reduceSub, Int.reduceToNat, Int.reduceLE, Int.reduceLT, Int.reduceNeg, Int.reduceBEq, Int.reduceBNe, Nat.reduceMul, Int.reduceAdd, Int.reduceMul, Int.reduceSub, Int.reduceEq, Int.reduceNe]
      | cons p post =>
        rw [← hcc]
        have h0 : c[0]? = some p := by rw [hcc]; rfl
        have h0' : (0 : Int) < (c.length : Int) := by rw [hcc]; simp <;> omega
        obtain ⟨pre, z, hpz⟩ : ∃ pre z, c = pre ++ [z] := by
          rcases List.eq_nil_or_concat c with h | ⟨pre, z, h⟩
          · rw [hcc] at h; cases h
          · exact ⟨pre, z, by rw [h, List.concat_eq_append]⟩
        have hw1 : IntKind.i64.wrap ((c.length : Int) - 1) = ((pre.length : Nat) : Int) := by
          rw [wrap_small (by omega) (by simp [room]; omega), hpz]; simp
        have hz : c[pre.length]? = some z := by rw [hpz]; simp
        have hzl : ((pre.length : Nat) : Int) < (c.length : Int) := by rw [hpz]; simp <;> omega
        have f1 : decide ((n : Int) < p.parts) = true → (addS c n != p.add) = false := fun h => by
          have := add_first (n := (n : Int)) hcc (by simpa using h)
          simp [this]
        have f2 : decide (z.parts < (n : Int)) = true → (addS c n != z.add) = false := fun h => by
          have := add_last (n := (n : Int)) hc hpz (by simpa using h)
          simp [this]
        cases d1 : decide ((n : Int) < p.parts)
        · cases d2 : decide (z.parts < (n : Int))
          · simp (config := { maxSteps := 400000 }) only [h0, h0', hw1, hz, hzl, d1, d2, go_sem, ↓reduceIte, reduceCtorEq, Nat.reduceEqDiff, Nat.reduceAdd, Nat.reduceLT, Nat.reduceLeDiff, Nat.reduceSub, Int.reduceToNat, Int.reduceLE, Int.reduceLT, Int.reduceNeg, Int.reduceBEq, Int.reduceBNe, Nat.reduceMul, Int.reduceAdd, Int.reduceMul, Int.reduceSub, Int.reduceEq, Int.reduceNe]
            refine WQ_headA (n + 1) (by omega) (by omega) ?_
            simp (config := { maxSteps := 400000 }) only [hnx, go_sem, ↓reduceIte, reduceCtorEq, Nat.reduceEqDiff, Nat.reduceAdd, Nat.reduceLT, Nat.reduceLeDiff, Nat.reduceSub, Int.reduceToNat, Int.reduceLE, Int.reduceLT, Int.reduceNeg, Int.reduceBEq, Int.reduceBNe, Nat.reduceMul, Int.reduceAdd, Int.reduceMul, Int.reduceSub, Int.reduceEq, Int.reduceNe]
          · simp (config := { maxSteps := 400000 }) only [h0, h0', hw1, hz, hzl, d1, d2, f2 d2, go_sem, ↓reduceIte, reduceCtorEq, Nat.reduceEqDiff, Nat.reduceAdd, Nat.reduceLT, Nat.reduceLeDiff, Nat.reduceSub, Int.reduceToNat, Int.reduceLE, Int.reduceLT, Int.reduceNeg, Int.reduceBEq, Int.reduceBNe, Nat.reduceMul, Int.reduceAdd, Int.reduceMul, Int.reduceSub, Int.reduceEq, Int.reduceNe]
            refine WQ_headA (n + 1) (by omega) (by omega) ?_
            simp (config := { maxSteps := 400000 }) only [hnx, go_sem, ↓reduceIte, reduceCtorEq, Nat.reduceEqDiff, Nat.reduceAdd, Nat.reduceLT, Nat.reduceLeDiff, Nat.reduceSub, Int.reduceToNat, Int.reduceLE, Int.reduceLT, Int.reduceNeg, Int.reduceBEq, Int.reduceBNe, Nat.reduceMul, Int.reduceAdd, Int.reduceMul, Int.reduceSub, Int.reduceEq, Int.reduceNe]
        · cases d2 : decide (z.parts < (n : Int))
          · simp (config := { maxSteps := 400000 }) only [h0, h0', hw1, hz, hzl, d1, d2, f1 d1, go_sem, ↓reduceIte, reduceCtorEq, Nat.reduceEqDiff, Nat.reduceAdd, Nat.reduceLT, Nat.reduceLeDiff, Nat.reduceSub, Int.reduceToNat, Int.reduceLE, Int.reduceLT, Int.reduceNeg, Int.reduceBEq, Int.reduceBNe, Nat.reduceMul, Int.reduceAdd, Int.reduceMul, Int.reduceSub, Int.reduceEq, Int.reduceNe]
            refine WQ_headA (n + 1) (by omega) (by omega) ?_
            simp (config := { maxSteps := 400000 }) only [hnx, go_sem, ↓reduceIte, reduceCtorEq, Nat.reduceEqDiff, Nat.reduceAdd, Nat.reduceLT, Nat.reduceLeDiff, Nat.reduceSub, Int.reduceToNat, Int.reduceLE, Int.reduceLT, Int.reduceNeg, Int.reduceBEq, Int.reduceBNe, Nat.reduceMul, Int.reduceAdd, Int.reduceMul, Int.reduceSub, Int.reduceEq, Int.reduceNe]
          · simp (config := { maxSteps := 400000 }) only [h0, h0', hw1, hz, hzl, d1, d2, f1 d1, f2 d2, go_sem, ↓reduceIte, reduceCtorEq, Nat.reduceEqDiff, Nat.reduceAdd, Nat.reduceLT, Nat.reduceLeDiff, Nat.reduceSub, Int.reduceToNat, Int.reduceLE, Int.reduceLT, Int.reduceNeg, Int.reduceBEq, Int.reduceBNe, Nat.reduceMul, Int.reduceAdd, Int.reduceMul, Int.reduceSub, Int.reduceEq, Int.reduceNe]
            refine WQ_headA (n + 1) (by omega) (by omega) ?_
            simp (config := { maxSteps := 400000 }) only [hnx, go_sem, ↓reduceIte, reduceCtorEq, Nat.reduceEqDiff, Nat.reduceAdd, Nat.reduceLT, Nat.reduceLeDiff, Nat.reduceSub, Int.reduceToNat, Int.reduceLE, Int.reduceLT, Int.reduceNeg, Int.reduceBEq, Int.reduceBNe, Nat.reduceMul, Int.reduceAdd, Int.reduceMul, Int.reduceSub, Int.reduceEq, Int.reduceNe]
    · intro done x rest _ e1 _ hx hlt hnx2
      have f1 : ((n : Int) == x.parts) = true → (addS c n != x.add) = false := fun h => by
        have h' : (n : Int) = x.parts := by simpa using h
        rw [h', add_point hc e1]; simp
      rcases List.eq_nil_or_concat done with rfl | ⟨pre, d, hpd⟩
      · have hx0 : c[0]? = some x := hx
        have hl0 : (0 : Int) < (c.length : Int) := hlt
        cases d1 : ((n : Int) == x.parts)
        · simp (config := { maxSteps := 400000 }) only [hl0, hx0, d1, go_sem, ↓reduceIte, reduceCtorEq, Nat.reduceEqDiff, Nat.reduceAdd, Nat.reduceLT, Nat.reduceLeDiff, Nat.reduceSub, Int.reduceToNat, Int.reduceLE, Int.reduceLT, Int.reduceNeg, Int.reduceBEq, Int.reduceBNe, Nat.reduceMul, Int.reduceAdd, Int.reduceMul, Int.reduceSub, Int.reduceEq, Int.reduceNe]
          refine WQ_next e1 () trivial ?_
          simp (config := { maxSteps := 400000 }) only [hnx2, go_sem, ↓reduceIte, reduceCtorEq, Nat.reduceEqDiff, Nat.reduceAdd, Nat.reduceLT, Nat.reduceLeDiff, Nat.reduceSub, Int.reduceToNat, Int.reduceLE, Int.reduceLT, Int.reduceNeg, Int.reduceBEq, Int.reduceBNe, Nat.reduceMul, Int.reduceAdd, Int.reduceMul, Int.reduceSub, Int.reduceEq, Int.reduceNe]
        · simp (config := { maxSteps := 400000 }) only [hl0, hx0, d1, f1 d1, go_sem, ↓reduceIte, reduceCtorEq, Nat.reduceEqDiff, Nat.reduceAdd, Nat.reduceLT, Nat.reduceLeDiff, Nat.reduceSub, Int.reduceToNat, Int.reduceLE, Int.reduceLT, Int.reduceNeg, Int.reduceBEq, Int.reduceBNe, Nat.reduceMul, Int.reduceAdd, Int.reduceMul, Int.reduceSub, Int.reduceEq, Int.reduceNe]
          refine WQ_next e1 () trivial ?_
          simp (config := { maxSteps := 400000 }) only [hnx2, go_sem, ↓reduceIte, reduceCtorEq, Nat.reduceEqDiff, Nat.reduceAdd, Nat.reduceLT, Nat.reduceLeDiff, Nat.reduceSub, Int.reduceToNat, Int.reduceLE, Int.reduceLT, Int.reduceNeg, Int.reduceBEq, Int.reduceBNe, Nat.reduceMul, Int.reduceAdd, Int.reduceMul, Int.reduceSub, Int.reduceEq, Int.reduceNe]
      · rw [List.concat_eq_append] at hpd
        subst hpd
        have hp : decide ((0 : Int) < (((pre ++ [d]).length : Nat) : Int)) = true := by simp <;> omega
        have hw1 : IntKind.i64.wrap ((((pre ++ [d]).length : Nat) : Int) - 1) = ((pre.length : Nat) : Int) := by
          rw [wrap_small (by simp <;> omega) (by simp [room] at hlt ⊢; omega)]; simp
        have hd : c[pre.length]? = some d := by rw [e1]; simp
        have hlt2 : ((pre.length : Nat) : Int) < (c.length : Int) := by simp at hlt; omega
        have f2 : decide (d.parts < (n : Int)) = true → decide ((n : Int) < x.parts) = true → decide (addS c n < if x.add < d.add then x.add else d.add) = false ∧ decide ((if d.add < x.add then x.add else d.add) < addS c n) = false := fun h1 h2 => by
          obtain ⟨b1, b2⟩ := add_between (n := (n : Int)) hc (by rw [e1]; simp : c = pre ++ d :: x :: rest) (by simpa using h1) (by simpa using h2)
          constructor
          · simp
            split <;> omega
          · simp
            split <;> omega
        cases d1 : ((n : Int) == x.parts) <;> cases d2 : decide (d.parts < (n : Int)) <;> cases d3 : decide ((n : Int) < x.parts) <;>
          (first
            | (simp (config := { maxSteps := 400000 }) only [hlt, hx, d1, hp, hw1, hd, hlt2, d2, d3, (f2 d2 d3).1, (f2 d2 d3).2, go_sem, ↓reduceIte, reduceCtorEq, Nat.reduceEqDiff, Nat.reduceAdd, Nat.reduceLT, Nat.reduceLeDiff, Nat.reduceSub, Int.reduceToNat, Int.reduceLE, Int.reduceLT, Int.reduceNeg, Int.reduceBEq, Int.reduceBNe, Nat.reduceMul, Int.reduceAdd, Int.reduceMul, Int.reduceSub, Int.reduceEq, Int.reduceNe]
               refine WQ_next e1 () trivial ?_
               simp (config := { maxSteps := 400000 }) only [hnx2, go_sem, ↓reduceIte, reduceCtorEq, Nat.reduceEqDiff, Nat.reduceAdd, Nat.reduceLT, Nat.reduceLeDiff, Nat.reduceSub, Int.reduceToNat, Int.reduceLE, Int.reduceLT, Int.reduceNeg, Int.reduceBEq, Int.reduceBNe, Nat.reduceMul, Int.reduceAdd, Int.reduceMul, Int.reduceSub, Int.reduceEq, Int.reduceNe]; done)
            | (simp (config := { maxSteps := 400000 }) only [hlt, hx, d1, f1 d1, hp, hw1, hd, hlt2, d2, d3, (f2 d2 d3).1, (f2 d2 d3).2, go_sem, ↓reduceIte, reduceCtorEq, Nat.reduceEqDiff, Nat.reduceAdd, Nat.reduceLT, Nat.reduceLeDiff, Nat.reduceSub, Int.reduceToNat, Int.reduceLE, Int.reduceLT, Int.reduceNeg, Int.reduceBEq, Int.reduceBNe, Nat.reduceMul, Int.reduceAdd, Int.reduceMul, Int.reduceSub, Int.reduceEq, Int.reduceNe]
               refine WQ_next e1 () trivial ?_
               simp (config := { maxSteps := 400000 }) only [hnx2, go_sem, ↓reduceIte, reduceCtorEq, Nat.reduceEqDiff, Nat.reduceAdd, Nat.reduceLT, Nat.reduceLeDiff, Nat.reduceSub, Int.reduceToNat, Int.reduceLE, Int.reduceLT, Int.reduceNeg, Int.reduceBEq, Int.reduceBNe, Nat.reduceMul, Int.reduceAdd, Int.reduceMul, Int.reduceSub, Int.reduceEq, Int.reduceNe]; done)
            | (simp (config := { maxSteps := 400000 }) only [hlt, hx, d1, f1 d1, hp, hw1, hd, hlt2, d2, d3, go_sem, ↓reduceIte, reduceCtorEq, Nat.reduceEqDiff, Nat.reduceAdd, Nat.reduceLT, Nat.reduceLeDiff, Nat.reduceSub, Int.reduceToNat, Int.reduceLE, Int.reduceLT, Int.reduceNeg, Int.reduceBEq, Int.reduceBNe, Nat.reduceMul, Int.reduceAdd, Int.reduceMul, Int.reduceSub, Int.reduceEq, Int.reduceNe]
               refine WQ_next e1 () trivial ?_
               simp (config := { maxSteps := 400000 }) only [hnx2, go_sem, ↓reduceIte, reduceCtorEq, Nat.reduceEqDiff, Nat.reduceAdd, Nat.reduceLT, Nat.reduceLeDiff, Nat.reduceSub, Int.reduceToNat, Int.reduceLE, Int.reduceLT, Int.reduceNeg, Int.reduceBEq, Int.reduceBNe, Nat.reduceMul, Int.reduceAdd, Int.reduceMul, Int.reduceSub, Int.reduceEq, Int.reduceNe]; done)
            | (simp (config := { maxSteps := 400000 }) only [hlt, hx, d1, hp, hw1, hd, hlt2, d2, d3, go_sem, ↓reduceIte, reduceCtorEq, Nat.reduceEqDiff, Nat.reduceAdd, Nat.reduceLT, Nat.reduceLeDiff, Nat.reduceSub, Int.reduceToNat, Int.reduceLE, Int.reduceLT, Int.reduceNeg, Int.reduceBEq, Int.reduceBNe, Nat.reduceMul, Int.reduceAdd, Int.reduceMul, Int.reduceSub, Int.reduceEq, Int.reduceNe]
               refine WQ_next e1 () trivial ?_
               simp (config := { maxSteps := 400000 }) only [hnx2, go_sem, ↓reduceIte, reduceCtorEq, Nat.reduceEqDiff, Nat.reduceAdd, Nat.reduceLT, Nat.reduceLeDiff, Nat.reduceSub, Int.reduceToNat, Int.reduceLE, Int.reduceLT, Int.reduceNeg, Int.reduceBEq, Int.reduceBNe, Nat.reduceMul, Int.reduceAdd, Int.reduceMul, Int.reduceSub, Int.reduceEq, Int.reduceNe]; done))
  · simp (config := { maxSteps := 400000 }) only [hce, hempty hce, go_sem, ↓reduceIte, reduceCtorEq, Nat.reduceEqDiff, Nat.reduceAdd, Nat.reduceLT, Nat.reduceLeDiff, Nat.reduceSub, Int.reduceToNat, Int.reduceLE, Int.reduceLT, Int.reduceNeg, Int.reduceBEq, Int.reduceBNe, Nat.reduceMul, Int.reduceAdd, Int.reduceMul, Int.reduceSub, Int.reduceEq, Int.reduceNe]
    refine W_rangeH [0, 7, 8, 9, 10] c (by omega) (τ := Unit) (fun _ _ _ => True) (fun done _ => [(12, .p (.int .i64 done.length))]) () trivial ?_ ?_ ?_
    · simp (config := { maxSteps := 400000 }) only [go_sem, ↓reduceIte, reduceCtorEq, Nat.reduceEqDiff, Nat.reduceAdd, Nat.reduceLT, Nat.reduceLeDiff, Nat.reduceSub, Int.reduceToNat, Int.reduceLE, Int.reduceLT, Int.reduceNeg, Int.reduceBEq, Int.reduceBNe, Nat.reduceMul, Int.reduceAdd, Int.reduceMul, Int.reduceSub, Int.reduceEq, Int.reduceNe] <;> simp
    · intro _ _
      cases hcc : c with
      | nil =>
        simp (config := { maxSteps := 400000 }) only [go_sem, ↓reduceIte, reduceCtorEq, Nat.reduceEqDiff, Nat.reduceAdd, Nat.reduceLT, Nat.reduceLeDiff, Nat.reduceSub, Int.reduceToNat, Int.reduceLE, Int.reduceLT, Int.reduceNeg, Int.reduceBEq, Int.reduceBNe, Nat.reduceMul, Int.reduceAdd, Int.reduceMul, Int.reduceSub, Int.reduceEq, Int.reduceNe]
        refine WQ_headA (n + 1) (by omega) (by omega) ?_
        simp (config := { maxSteps := 400000 }) only [hnx, go_sem, ↓reduceIte, reduceCtorEq, Nat.reduceEqDiff, Nat.reduceAdd, Nat.reduceLT, Nat.reduceLeDiff, Nat.reduceSub, Int.reduceToNat, Int.reduceLE, Int.reduceLT, Int.reduceNeg, Int.reduceBEq, Int.reduceBNe, Nat.reduceMul, Int.reduceAdd, Int.reduceMul, Int.reduceSub, Int.reduceEq, Int.reduceNe]
      | cons p post =>
        rw [← hcc]
        have h0 : c[0]? = some p := by rw [hcc]; rfl
        have h0' : (0 : Int) < (c.length : Int) := by rw [hcc]; simp <;> omega
        obtain ⟨pre, z, hpz⟩ : ∃ pre z, c = pre ++ [z] := by
          rcases List.eq_nil_or_concat c with h | ⟨pre, z, h⟩
          · rw [hcc] at h; cases h
          · exact ⟨pre, z, by rw [h, List.concat_eq_append]⟩
        have hw1 : IntKind.i64.wrap ((c.length : Int) - 1) = ((pre.length : Nat) : Int) := by
          rw [wrap_small (by omega) (by simp [room]; omega), hpz]; simp
        have hz : c[pre.length]? = some z := by rw [hpz]; simp
        have hzl : ((pre.length : Nat) : Int) < (c.length : Int) := by rw [hpz]; simp <;> omega
        have f1 : decide ((n : Int) < p.parts) = true → (addS c n != p.add) = false := fun h => by
          have := add_first (n := (n : Int)) hcc (by simpa using h)
          simp [this]
        have f2 : decide (z.parts < (n : Int)) = true → (addS c n != z.add) = false := fun h => by
          have := add_last (n := (n : Int)) hc hpz (by simpa using h)
          simp [this]
        cases d1 : decide ((n : Int) < p.parts)
        · cases d2 : decide (z.parts < (n : Int))
          · simp (config := { maxSteps := 400000 }) only [h0, h0', hw1, hz, hzl, d1, d2, go_sem, ↓reduceIte, reduceCtorEq, Nat.reduceEqDiff, Nat.reduceAdd, Nat.reduceLT, Nat.reduceLeDiff, Nat.reduceSub, Int.reduceToNat, Int.reduceLE, Int.reduceLT, Int.reduceNeg, Int.reduceBEq, Int.reduceBNe, Nat.reduceMul, Int.reduceAdd, Int.reduceMul, Int.reduceSub, Int.reduceEq, Int.reduceNe]
            refine WQ_headA (n + 1) (by omega) (by omega) ?_
            simp (config := { maxSteps := 400000 }) only [hnx, go_sem, ↓reduceIte, reduceCtorEq, Nat.reduceEqDiff, Nat.reduceAdd, Nat.reduceLT, Nat.reduceLeDiff, Nat.reduceSub, Int.reduceToNat, Int.reduceLE, Int.reduceLT, Int.reduceNeg, Int.reduceBEq, Int.reduceBNe, Nat.reduceMul, Int.reduceAdd, Int.reduceMul, Int.reduceSub, Int.reduceEq, Int.reduceNe]
          · simp (config := { maxSteps := 400000 }) only [h0, h0', hw1, hz, hzl, d1, d2, f2 d2, go_sem, ↓reduceIte, reduceCtorEq, Nat.reduceEqDiff, Nat.reduceAdd, Nat.reduceLT, Nat.reduceLeDiff, Nat.reduceSub, Int.reduceToNat, Int.reduceLE, Int.reduceLT, Int.reduceNeg, Int.reduceBEq, Int.reduceBNe, Nat.reduceMul, Int.reduceAdd, Int.reduceMul, Int.reduceSub, Int.reduceEq, Int.reduceNe]
            refine WQ_headA (n + 1) (by omega) (by omega) ?_
            simp (config := { maxSteps := 400000 }) only [hnx, go_sem, ↓reduceIte, reduceCtorEq, Nat.reduceEqDiff, Nat.reduceAdd, Nat.reduceLT, Nat.reduceLeDiff, Nat.reduceSub, Int.reduceToNat, Int.reduceLE, Int.reduceLT, Int.reduceNeg, Int.reduceBEq, Int.reduceBNe, Nat.reduceMul, Int.reduceAdd, Int.reduceMul, Int.reduceSub, Int.reduceEq, Int.reduceNe]
        · cases d2 : decide (z.parts < (n : Int))
          · simp (config := { maxSteps := 400000 }) only [h0, h0', hw1, hz, hzl, d1, d2, f1 d1, go_sem, ↓reduceIte, reduceCtorEq, Nat.reduceEqDiff, Nat.reduceAdd, Nat.reduceLT, Nat.reduceLeDiff, Nat.reduceSub, Int.reduceToNat, Int.reduceLE, Int.reduceLT, Int.reduceNeg, Int.reduceBEq, Int.reduceBNe, Nat.reduceMul, Int.reduceAdd, Int.reduceMul, Int.reduceSub, Int.reduceEq, Int.reduceNe]
            refine WQ_headA (n + 1) (by omega) (by omega) ?_
            simp (config := { maxSteps := 400000 }) only [hnx, go_sem, ↓reduceIte, reduceCtorEq, Nat.reduceEqDiff, Nat.reduceAdd, Nat.reduceLT, Nat.reduceLeDiff, Nat.reduceSub, Int.reduceToNat, Int.reduceLE, Int.reduceLT, Int.reduceNeg, Int.reduceBEq, Int.reduceBNe, Nat.reduceMul, Int.reduceAdd, Int.reduceMul, Int.reduceSub, Int.reduceEq, Int.reduceNe]
          · simp (config := { maxSteps := 400000 }) only [h0, h0', hw1, hz, hzl, d1, d2, f1 d1, f2 d2, go_sem, ↓reduceIte, reduceCtorEq, Nat.reduceEqDiff, Nat.reduceAdd, Nat.reduceLT, Nat.reduceLeDiff, Nat.reduceSub, Int.reduceToNat, Int.reduceLE, Int.reduceLT, Int.reduceNeg, Int.reduceBEq, Int.reduceBNe, Nat.reduceMul, Int.reduceAdd, Int.reduceMul, Int.reduceSub, Int.reduceEq, Int.reduceNe]
            refine WQ_headA (n + 1) (by omega) (by omega) ?_
            simp (config := { maxSteps := 400000 }) only [hnx, go_sem, ↓reduceIte, reduceCtorEq, Nat.reduceEqDiff, Nat.reduceAdd, Nat.reduceLT, Nat.reduceLeDiff, Nat.reduceSub, Int.reduceToNat, Int.reduceLE, Int.reduceLT, Int.reduceNeg, Int.reduceBEq, Int.reduceBNe, Nat.reduceMul, Int.reduceAdd, Int.reduceMul, Int.reduceSub, Int.reduceEq, Int.reduceNe]
    · intro done x rest _ e1 _ hx hlt hnx2
      have f1 : ((n : Int) == x.parts) = true → (addS c n != x.add) = false := fun h => by
        have h' : (n : Int) = x.parts := by simpa using h
        rw [h', add_point hc e1]; simp
      rcases List.eq_nil_or_concat done with rfl | ⟨pre, d, hpd⟩
      · have hx0 : c[0]? = some x := hx
        have hl0 : (0 : Int) < (c.length : Int) := hlt
        cases d1 : ((n : Int) == x.parts)
        · simp (config := { maxSteps := 400000 }) only [hl0, hx0, d1, go_sem, ↓reduceIte, reduceCtorEq, Nat.reduceEqDiff, Nat.reduceAdd, Nat.reduceLT, Nat.reduceLeDiff, Nat.reduceSub, Int.reduceToNat, Int.reduceLE, Int.reduceLT, Int.reduceNeg, Int.reduceBEq, Int.reduceBNe, Nat.reduceMul, Int.reduceAdd, Int.reduceMul, Int.reduceSub, Int.reduceEq, Int.reduceNe]
          refine WQ_next e1 () trivial ?_
          simp (config := { maxSteps := 400000 }) only [hnx2, go_sem, ↓reduceIte, reduceCtorEq, Nat.reduceEqDiff, Nat.reduceAdd, Nat.reduceLT, Nat.reduceLeDiff, Nat.reduceSub, Int.reduceToNat, Int.reduceLE, Int.reduceLT, Int.reduceNeg, Int.reduceBEq, Int.reduceBNe, Nat.reduceMul, Int.reduceAdd, Int.reduceMul, Int.reduceSub, Int.reduceEq, Int.reduceNe]
        · simp (config := { maxSteps := 400000 }) only [hl0, hx0, d1, f1 d1, go_sem, ↓reduceIte, reduceCtorEq, Nat.reduceEqDiff, Nat.reduceAdd, Nat.reduceLT, Nat.reduceLeDiff, Nat.reduceSub, Int.reduceToNat, Int.reduceLE, Int.reduceLT, Int.reduceNeg, Int.reduceBEq, Int.reduceBNe, Nat.reduceMul, Int.reduceAdd, Int.reduceMul, Int.reduceSub, Int.reduceEq, Int.reduceNe]
          refine WQ_next e1 () trivial ?_
          simp (config := { maxSteps := 400000 }) only [hnx2, go_sem, ↓reduceIte, reduceCtorEq, Nat.reduceEqDiff, Nat.reduceAdd, Nat.reduceLT, Nat.reduceLeDiff, Nat.reduceSub, Int.reduceToNat, Int.reduceLE, Int.reduceLT, Int.reduceNeg, Int.reduceBEq, Int.reduceBNe, Nat.reduceMul, Int.reduceAdd, Int.reduceMul, Int.reduceSub, Int.reduceEq, Int.reduceNe]
      · rw [List.concat_eq_append] at hpd
        subst hpd
        have hp : decide ((0 : Int) < (((pre ++ [d]).length : Nat) : Int)) = true := by simp <;> omega
        have hw1 : IntKind.i64.wrap ((((pre ++ [d]).length : Nat) : Int) - 1) = ((pre.length : Nat) : Int) := by
          rw [wrap_small (by simp <;> omega) (by simp [room] at hlt ⊢; omega)]; simp
        have hd : c[pre.length]? = some d := by rw [e1]; simp
        have hlt2 : ((pre.length : Nat) : Int) < (c.length : Int) := by simp at hlt; omega
        have f2 : decide (d.parts < (n : Int)) = true → decide ((n : Int) < x.parts) = true → decide (addS c n < if x.add < d.add then x.add else d.add) = false ∧ decide ((if d.add < x.add then x.add else d.add) < addS c n) = false := fun h1 h2 => by
          obtain ⟨b1, b2⟩ := add_between (n := (n : Int)) hc (by rw [e1]; simp : c = pre ++ d :: x :: rest) (by simpa using h1) (by simpa using h2)
          constructor
          · simp
            split <;> omega
          · simp
            split <;> omega
        cases d1 : ((n : Int) == x.parts) <;> cases d2 : decide (d.parts < (n : Int)) <;> cases d3 : decide ((n : Int) < x.parts) <;>
          (first
            | (simp (config := { maxSteps := 400000 }) only [hlt, hx, d1, hp, hw1, hd, hlt2, d2, d3, (f2 d2 d3).1, (f2 d2 d3).2, go_sem, ↓reduceIte, reduceCtorEq, Nat.reduceEqDiff, Nat.reduceAdd, Nat.reduceLT, Nat.reduceLeDiff, Nat.reduceSub, Int.reduceToNat, Int.reduceLE, Int.reduceLT, Int.reduceNeg, Int.reduceBEq, Int.reduceBNe, Nat.reduceMul, Int.reduceAdd, Int.reduceMul, Int.reduceSub, Int.reduceEq, Int.reduceNe]
               refine WQ_next e1 () trivial ?_
               simp (config := { maxSteps := 400000 }) only [hnx2, go_sem, ↓reduceIte, reduceCtorEq, Nat.reduceEqDiff, Nat.reduceAdd, Nat.reduceLT, Nat.reduceLeDiff, Nat.reduceSub, Int.reduceToNat, Int.reduceLE, Int.reduceLT, Int.reduceNeg, Int.reduceBEq, Int.reduceBNe, Nat.reduceMul, Int.reduceAdd, Int.reduceMul, Int.reduceSub, Int.reduceEq, Int.reduceNe]; done)
            | (simp (config := { maxSteps := 400000 }) only [hlt, hx, d1, f1 d1, hp, hw1, hd, hlt2, d2, d3, (f2 d2 d3).1, (f2 d2 d3).2, go_sem, ↓reduceIte, reduceCtorEq, Nat.reduceEqDiff, Nat.reduceAdd, Nat.reduceLT, Nat.reduceLeDiff, Nat.reduceSub, Int.reduceToNat, Int.reduceLE, Int.reduceLT, Int.reduceNeg, Int.reduceBEq, Int.reduceBNe, Nat.reduceMul, Int.reduceAdd, Int.reduceMul, Int.reduceSub, Int.reduceEq, Int.reduceNe]
               refine WQ_next e1 () trivial ?_
               simp (config := { maxSteps := 400000 }) only [hnx2, go_sem, ↓reduceIte, reduceCtorEq, Nat.reduceEqDiff, Nat.reduceAdd, Nat.reduceLT, Nat.reduceLeDiff, Nat.reduceSub, Int.reduceToNat, Int.reduceLE, Int.reduceLT, Int.reduceNeg, Int.reduceBEq, Int.reduceBNe, Nat.reduceMul, Int.reduceAdd, Int.reduceMul, Int.reduceSub, Int.reduceEq, Int.reduceNe]; done)
            | (simp (config := { maxSteps := 400000 }) only [hlt, hx, d1, f1 d1, hp, hw1, hd, hlt2, d2, d3, go_sem, ↓reduceIte, reduceCtorEq, Nat.reduceEqDiff, Nat.reduceAdd, Nat.reduceLT, Nat.reduceLeDiff, Nat.reduceSub, Int.reduceToNat, Int.reduceLE, Int.reduceLT, Int.reduceNeg, Int.reduceBEq, Int.reduceBNe, Nat.reduceMul, Int.reduceAdd, Int.reduceMul, Int.reduceSub, Int.reduceEq, Int.reduceNe]
               refine WQ_next e1 () trivial ?_
               simp (config := { maxSteps := 400000 }) only [hnx2, go_sem, ↓reduceIte, reduceCtorEq, Nat.reduceEqDiff, Nat.reduceAdd, Nat.reduceLT, Nat.reduceLeDiff, Nat.reduceSub, Int.reduceToNat, Int.reduceLE, Int.reduceLT, Int.reduceNeg, Int.reduceBEq, Int.reduceBNe, Nat.reduceMul, Int.reduceAdd, Int.reduceMul, Int.reduceSub, Int.reduceEq, Int.reduceNe]; done)
            | (simp (config := { maxSteps := 400000 }) only [hlt, hx, d1, hp, hw1, hd, hlt2, d2, d3, go_sem, ↓reduceIte, reduceCtorEq, Nat.reduceEqDiff, Nat.reduceAdd, Nat.reduceLT, Nat.reduceLeDiff, Nat.reduceSub, Int.reduceToNat, Int.reduceLE, Int.reduceLT, Int.reduceNeg, Int.reduceBEq, Int.reduceBNe, Nat.reduceMul, Int.reduceAdd, Int.reduceMul, Int.reduceSub, Int.reduceEq, Int.reduceNe]
               refine WQ_next e1 () trivial ?_
               simp (config := { maxSteps := 400000 }) only [hnx2, go_sem, ↓reduceIte, reduceCtorEq, Nat.reduceEqDiff, Nat.reduceAdd, Nat.reduceLT, Nat.reduceLeDiff, Nat.reduceSub, Int.reduceToNat, Int.reduceLE, Int.reduceLT, Int.reduceNeg, Int.reduceBEq, Int.reduceBNe, Nat.reduceMul, Int.reduceAdd, Int.reduceMul, Int.reduceSub, Int.reduceEq, Int.reduceNe]; done))
end Abs
end Go.Proofs.Ythekmbikolpmlaa
