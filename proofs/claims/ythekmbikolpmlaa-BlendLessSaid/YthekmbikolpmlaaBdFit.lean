/-
  CONTRACTS: Value, Made, Weigh, Raise, the error of a wish, why a recipe does not fit one, Fits; in the program and in the reference.
-/
import Derived.Test.YthekmbikolpmlaaBdEnds
namespace Go.Proofs.Ythekmbikolpmlaa
namespace Abs
set_option linter.unusedSimpArgs false
set_option maxRecDepth 4000

/-! lists side by side -/
theorem zip_fst {α β γ : Type} (f : α → γ) {l : List α} {r : List β} (h : r.length = l.length) : ((l.zip r).map fun p => f p.1) = l.map f := by
  rw [show (fun p : α × β => f p.1) = f ∘ Prod.fst from rfl, ← List.map_map, List.map_fst_zip (by omega)]
theorem zip_snd {α β γ : Type} (f : β → γ) {l : List α} {r : List β} (h : r.length = l.length) : ((l.zip r).map fun p => f p.2) = r.map f := by
  rw [show (fun p : α × β => f p.2) = f ∘ Prod.snd from rfl, ← List.map_map, List.map_snd_zip (by omega)]
theorem psOk_zip {l : List BdWax} {r : List Int} (hl : BdWaxesOk l) (hr : ∀ n, n ∈ r → 0 ≤ n ∧ n ≤ 20) : PsOk (l.zip r) := by
  refine ⟨by have := hl.len; simp; omega, fun p hp => ?_⟩
  obtain ⟨x, n⟩ := p
  obtain ⟨h1, h2⟩ := List.of_mem_zip hp
  exact ⟨hl.wax x h1, hr n h2⟩
theorem cBlendZ {l : List BdWax} {r : List Int} (b1 b2 : Bool) (hl : BdWaxesOk l) (hlen : r.length = l.length) : PCall Try.prog 61 [.slice 7 (l.map BdWax.pv) b1, .slice 1 (r.map intPV) b2] (bdParts (l.zip r)) := by
  have h := cBlend (l.zip r) b1 b2 (by have := hl.len; simp; omega)
  rwa [zip_fst BdWax.pv hlen, zip_snd intPV hlen] at h
theorem cRefRaisedZ {l : List BdWax} {r : List Int} (b1 b2 : Bool) (hl : BdWaxesOk l) (hlen : r.length = l.length) (hr : ∀ n, n ∈ r → 0 ≤ n ∧ n ≤ 20) : PCall Try.prog 70 [.slice 7 (l.map BdWax.pv) b1, .slice 1 (r.map intPV) b2] (.int .i64 (sumP fRaise (l.zip r))) := by
  have h := cRefRaised (l.zip r) b1 b2 (psOk_zip hl hr)
  rwa [zip_fst BdWax.pv hlen, zip_snd intPV hlen] at h
theorem cRefPriceZ {l : List BdWax} {r : List Int} (b1 b2 : Bool) (hl : BdWaxesOk l) (hlen : r.length = l.length) (hr : ∀ n, n ∈ r → 0 ≤ n ∧ n ≤ 20) : PCall Try.prog 44 [.slice 7 (l.map BdWax.pv) b1, .slice 1 (r.map intPV) b2] (.int .i64 (sumP fPrice (l.zip r))) := by
  have h := cRefPrice (l.zip r) b1 b2 (psOk_zip hl hr)
  rwa [zip_fst BdWax.pv hlen, zip_snd intPV hlen] at h
theorem cRefEndsZ {l : List BdWax} {r : List Int} (b1 b2 : Bool) (hl : BdWaxesOk l) (hlen : r.length = l.length) (hr : ∀ n, n ∈ r → 0 ≤ n ∧ n ≤ 20) : PCall Try.prog 65 [.slice 7 (l.map BdWax.pv) b1, .slice 1 (r.map intPV) b2] (.tuple [(meltP (l.zip r)).pv, (shrinkP (l.zip r)).pv]) := by
  have h := cRefEnds (l.zip r) b1 b2 (psOk_zip hl hr)
  rwa [zip_fst BdWax.pv hlen, zip_snd intPV hlen] at h

/-! Value -/
def bdValue (l : List BdWax) (r : List Int) : Span × Span × Int × Int :=
  if bdAsked l r = 0 then (meltP (l.zip r), shrinkP (l.zip r), sumP fPrice (l.zip r), 0) else (⟨0, 0⟩, ⟨0, 0⟩, 0, bdAsked l r)
def valuePV (v : Span × Span × Int × Int) : PV := .tuple [v.1.pv, v.2.1.pv, .int .i64 v.2.2.1, .int .i64 v.2.2.2]
theorem bdAsked_ok {l : List BdWax} {r : List Int} (h : bdAsked l r = 0) : BdWaxesOk l ∧ RecOk l.length r := by
  unfold bdAsked at h
  split at h
  · rename_i he
    exact ⟨bdWaxesOk_of he, recOk_of h⟩
  · rename_i he; exact absurd h he
theorem cValue (l : List BdWax) (r : List Int) (b : Bool) : PCall Try.prog 20 [bdWaxes l, .slice 1 (r.map intPV) b] (valuePV (bdValue l r)) := by
  refine pcall_of_wp draws (fn := Try.f20) (n := 29) (rs := [.cell 4 36, .cell 5 36, .tmp 6, .tmp 7]) (by kernel_rfl) rfl rfl rfl ok20 (Nat.le_of_ble_eq_true rfl) ?_
  simp (config := { maxSteps := 400000 }) only [H20, W_drawH, go_sem, ↓reduceIte, reduceCtorEq, Nat.reduceEqDiff, Nat.reduceAdd, Nat.reduceLT, Nat.reduceLeDiff, Nat.reduceSub, Int.reduceToNat, Int.reduceLE, Int.reduceLT, Int.reduceNeg, Int.reduceBEq, Int.reduceBNe, Nat.reduceMul, Int.reduceAdd, Int.reduceMul, Int.reduceSub, Int.reduceEq, Int.reduceNe]
  (first | refine WF_pure (cAsked l r b) rfl ?_ | refine WDQ_pure (cAsked l r b) rfl ?_)
  simp (config := { maxSteps := 400000 }) only [go_sem, ↓reduceIte, reduceCtorEq, Nat.reduceEqDiff, Nat.reduceAdd, Nat.reduceLT, Nat.reduceLeDiff, Nat.reduceSub, Int.reduceToNat, Int.reduceLE, Int.reduceLT, Int.reduceNeg, Int.reduceBEq, Int.reduceBNe, Nat.reduceMul, Int.reduceAdd, Int.reduceMul, Int.reduceSub, Int.reduceEq, Int.reduceNe]
  refine WB_split (fun he => ?_) (fun he => ?_)
  · have he' : ¬ bdAsked l r = 0 := by simpa using he
    simp (config := { maxSteps := 400000 }) only [H20, W_drawH, valuePV, bdValue, if_neg he', go_sem, ↓reduceIte, reduceCtorEq, Nat.reduceEqDiff, Nat.reduceAdd, Nat.reduceLT, Nat.reduceLeDiff, Nat.reduceSub, Int.reduceToNat, Int.reduceLE, Int.reduceLT, Int.reduceNeg, Int.reduceBEq, Int.reduceBNe, Nat.reduceMul, Int.reduceAdd, Int.reduceMul, Int.reduceSub, Int.reduceEq, Int.reduceNe]
  · have he' : bdAsked l r = 0 := by simpa using he
    obtain ⟨h1, h2⟩ := bdAsked_ok he'
    simp (config := { maxSteps := 400000 }) only [go_sem, ↓reduceIte, reduceCtorEq, Nat.reduceEqDiff, Nat.reduceAdd, Nat.reduceLT, Nat.reduceLeDiff, Nat.reduceSub, Int.reduceToNat, Int.reduceLE, Int.reduceLT, Int.reduceNeg, Int.reduceBEq, Int.reduceBNe, Nat.reduceMul, Int.reduceAdd, Int.reduceMul, Int.reduceSub, Int.reduceEq, Int.reduceNe]
    (first | refine WF_pure (cBlendZ false b h1 h2.len) rfl ?_ | refine WDQ_pure (cBlendZ false b h1 h2.len) rfl ?_)
    simp (config := { maxSteps := 400000 }) only [go_sem, ↓reduceIte, reduceCtorEq, Nat.reduceEqDiff, Nat.reduceAdd, Nat.reduceLT, Nat.reduceLeDiff, Nat.reduceSub, Int.reduceToNat, Int.reduceLE, Int.reduceLT, Int.reduceNeg, Int.reduceBEq, Int.reduceBNe, Nat.reduceMul, Int.reduceAdd, Int.reduceMul, Int.reduceSub, Int.reduceEq, Int.reduceNe]
    (first | refine WF_pure (cEnds (l.zip r) false (psOk_zip h1 h2.rng)) rfl ?_ | refine WDQ_pure (cEnds (l.zip r) false (psOk_zip h1 h2.rng)) rfl ?_)
    simp (config := { maxSteps := 400000 }) only [H20, W_drawH, go_sem, ↓reduceIte, reduceCtorEq, Nat.reduceEqDiff, Nat.reduceAdd, Nat.reduceLT, Nat.reduceLeDiff, Nat.reduceSub, Int.reduceToNat, Int.reduceLE, Int.reduceLT, Int.reduceNeg, Int.reduceBEq, Int.reduceBNe, Nat.reduceMul, Int.reduceAdd, Int.reduceMul, Int.reduceSub, Int.reduceEq, Int.reduceNe]
    (first | refine WF_pure (cBlendZ false b h1 h2.len) rfl ?_ | refine WDQ_pure (cBlendZ false b h1 h2.len) rfl ?_)
    simp (config := { maxSteps := 400000 }) only [H20, W_drawH, go_sem, ↓reduceIte, reduceCtorEq, Nat.reduceEqDiff, Nat.reduceAdd, Nat.reduceLT, Nat.reduceLeDiff, Nat.reduceSub, Int.reduceToNat, Int.reduceLE, Int.reduceLT, Int.reduceNeg, Int.reduceBEq, Int.reduceBNe, Nat.reduceMul, Int.reduceAdd, Int.reduceMul, Int.reduceSub, Int.reduceEq, Int.reduceNe]
    (first | refine WF_pure (cWhole_price (l.zip r) false (psOk_zip h1 h2.rng)) rfl ?_ | refine WDQ_pure (cWhole_price (l.zip r) false (psOk_zip h1 h2.rng)) rfl ?_)
    simp (config := { maxSteps := 400000 }) only [H20, W_drawH, valuePV, bdValue, if_pos he', go_sem, ↓reduceIte, reduceCtorEq, Nat.reduceEqDiff, Nat.reduceAdd, Nat.reduceLT, Nat.reduceLeDiff, Nat.reduceSub, Int.reduceToNat, Int.reduceLE, Int.reduceLT, Int.reduceNeg, Int.reduceBEq, Int.reduceBNe, Nat.reduceMul, Int.reduceAdd, Int.reduceMul, Int.reduceSub, Int.reduceEq, Int.reduceNe]
theorem cRefValue (l : List BdWax) (r : List Int) (b : Bool) : PCall Try.prog 21 [bdWaxes l, .slice 1 (r.map intPV) b] (valuePV (bdValue l r)) := by
  refine pcall_of_wp draws (fn := Try.f21) (n := 30) (rs := [.cell 4 36, .cell 5 36, .tmp 6, .tmp 7]) (by kernel_rfl) rfl rfl rfl ok21 (Nat.le_of_ble_eq_true rfl) ?_
  simp (config := { maxSteps := 400000 }) only [H21, W_drawH, go_sem, ↓reduceIte, reduceCtorEq, Nat.reduceEqDiff, Nat.reduceAdd, Nat.reduceLT, Nat.reduceLeDiff, Nat.reduceSub, Int.reduceToNat, Int.reduceLE, Int.reduceLT, Int.reduceNeg, Int.reduceBEq, Int.reduceBNe, Nat.reduceMul, Int.reduceAdd, Int.reduceMul, Int.reduceSub, Int.reduceEq, Int.reduceNe]
  (first | refine WF_pure (cRefBdAsked l r b) rfl ?_ | refine WDQ_pure (cRefBdAsked l r b) rfl ?_)
  simp (config := { maxSteps := 400000 }) only [go_sem, ↓reduceIte, reduceCtorEq, Nat.reduceEqDiff, Nat.reduceAdd, Nat.reduceLT, Nat.reduceLeDiff, Nat.reduceSub, Int.reduceToNat, Int.reduceLE, Int.reduceLT, Int.reduceNeg, Int.reduceBEq, Int.reduceBNe, Nat.reduceMul, Int.reduceAdd, Int.reduceMul, Int.reduceSub, Int.reduceEq, Int.reduceNe]
  refine WB_split (fun he => ?_) (fun he => ?_)
  · have he' : ¬ bdAsked l r = 0 := by simpa using he
    simp (config := { maxSteps := 400000 }) only [H21, W_drawH, valuePV, bdValue, if_neg he', go_sem, ↓reduceIte, reduceCtorEq, Nat.reduceEqDiff, Nat.reduceAdd, Nat.reduceLT, Nat.reduceLeDiff, Nat.reduceSub, Int.reduceToNat, Int.reduceLE, Int.reduceLT, Int.reduceNeg, Int.reduceBEq, Int.reduceBNe, Nat.reduceMul, Int.reduceAdd, Int.reduceMul, Int.reduceSub, Int.reduceEq, Int.reduceNe]
  · have he' : bdAsked l r = 0 := by simpa using he
    obtain ⟨h1, h2⟩ := bdAsked_ok he'
    simp (config := { maxSteps := 400000 }) only [go_sem, ↓reduceIte, reduceCtorEq, Nat.reduceEqDiff, Nat.reduceAdd, Nat.reduceLT, Nat.reduceLeDiff, Nat.reduceSub, Int.reduceToNat, Int.reduceLE, Int.reduceLT, Int.reduceNeg, Int.reduceBEq, Int.reduceBNe, Nat.reduceMul, Int.reduceAdd, Int.reduceMul, Int.reduceSub, Int.reduceEq, Int.reduceNe]
    (first | refine WF_pure (cRefEndsZ false b h1 h2.len h2.rng) rfl ?_ | refine WDQ_pure (cRefEndsZ false b h1 h2.len h2.rng) rfl ?_)
    simp (config := { maxSteps := 400000 }) only [H21, W_drawH, go_sem, ↓reduceIte, reduceCtorEq, Nat.reduceEqDiff, Nat.reduceAdd, Nat.reduceLT, Nat.reduceLeDiff, Nat.reduceSub, Int.reduceToNat, Int.reduceLE, Int.reduceLT, Int.reduceNeg, Int.reduceBEq, Int.reduceBNe, Nat.reduceMul, Int.reduceAdd, Int.reduceMul, Int.reduceSub, Int.reduceEq, Int.reduceNe]
    (first | refine WF_pure (cRefPriceZ false b h1 h2.len h2.rng) rfl ?_ | refine WDQ_pure (cRefPriceZ false b h1 h2.len h2.rng) rfl ?_)
    simp (config := { maxSteps := 400000 }) only [H21, W_drawH, valuePV, bdValue, if_pos he', go_sem, ↓reduceIte, reduceCtorEq, Nat.reduceEqDiff, Nat.reduceAdd, Nat.reduceLT, Nat.reduceLeDiff, Nat.reduceSub, Int.reduceToNat, Int.reduceLE, Int.reduceLT, Int.reduceNeg, Int.reduceBEq, Int.reduceBNe, Nat.reduceMul, Int.reduceAdd, Int.reduceMul, Int.reduceSub, Int.reduceEq, Int.reduceNe]

/-! Raise -/
def bdRaise (l : List BdWax) (wax parts : Int) : Int × Int :=
  if bdE l = 0 then
    if gIn wax 0 ((l.length : Int) - 1) = true then
      if gIn parts 0 20 = true then (match l[wax.toNat]? with | some x => addS x.curve parts | none => 0, 0) else (0, 7)
    else (0, 4)
  else (0, bdE l)
def pairPV (v : Int × Int) : PV := .tuple [.int .i64 v.1, .int .i64 v.2]
theorem len_dec {l : List BdWax} (h : BdWaxesOk l) : IntKind.i64.wrap ((l.length : Int) - 1) = (l.length : Int) - 1 := wrap_in (by omega) (by have := h.len; omega)
theorem cRaise (l : List BdWax) (wax parts : Int) : PCall Try.prog 17 [bdWaxes l, .int .i64 wax, .int .i64 parts] (pairPV (bdRaise l wax parts)) := by
  refine pcall_of_wp draws (fn := Try.f17) (n := 40) (rs := [.tmp 6, .tmp 7]) (by kernel_rfl) rfl rfl rfl ok17 (Nat.le_of_ble_eq_true rfl) ?_
  simp (config := { maxSteps := 400000 }) only [go_sem, ↓reduceIte, reduceCtorEq, Nat.reduceEqDiff, Nat.reduceAdd, Nat.reduceLT, Nat.reduceLeDiff, Nat.reduceSub, Int.reduceToNat, Int.reduceLE, Int.reduceLT, Int.reduceNeg, Int.reduceBEq, Int.reduceBNe, Nat.reduceMul, Int.reduceAdd, Int.reduceMul, Int.reduceSub, Int.reduceEq, Int.reduceNe]
  (first | refine WF_pure (cBdCheck l) rfl ?_ | refine WDQ_pure (cBdCheck l) rfl ?_)
  simp (config := { maxSteps := 400000 }) only [triple, go_sem, ↓reduceIte, reduceCtorEq, Nat.reduceEqDiff, Nat.reduceAdd, Nat.reduceLT, Nat.reduceLeDiff, Nat.reduceSub, Int.reduceToNat, Int.reduceLE, Int.reduceLT, Int.reduceNeg, Int.reduceBEq, Int.reduceBNe, Nat.reduceMul, Int.reduceAdd, Int.reduceMul, Int.reduceSub, Int.reduceEq, Int.reduceNe]
  refine WB_split (fun he => ?_) (fun he => ?_)
  · have he' : ¬ bdE l = 0 := by simpa [bdE] using he
    simp (config := { maxSteps := 400000 }) only [pairPV, bdRaise, if_neg he', go_sem, ↓reduceIte, reduceCtorEq, Nat.reduceEqDiff, Nat.reduceAdd, Nat.reduceLT, Nat.reduceLeDiff, Nat.reduceSub, Int.reduceToNat, Int.reduceLE, Int.reduceLT, Int.reduceNeg, Int.reduceBEq, Int.reduceBNe, Nat.reduceMul, Int.reduceAdd, Int.reduceMul, Int.reduceSub, Int.reduceEq, Int.reduceNe]
    rfl
  have he' : bdE l = 0 := by simpa [bdE] using he
  have hok := bdWaxesOk_of he'
  simp (config := { maxSteps := 400000 }) only [len_dec hok, go_sem, ↓reduceIte, reduceCtorEq, Nat.reduceEqDiff, Nat.reduceAdd, Nat.reduceLT, Nat.reduceLeDiff, Nat.reduceSub, Int.reduceToNat, Int.reduceLE, Int.reduceLT, Int.reduceNeg, Int.reduceBEq, Int.reduceBNe, Nat.reduceMul, Int.reduceAdd, Int.reduceMul, Int.reduceSub, Int.reduceEq, Int.reduceNe]
  (first | refine WF_pure (cBdOut 0 _ [_] true (by simp)) rfl ?_ | refine WDQ_pure (cBdOut 0 _ [_] true (by simp)) rfl ?_)
  simp (config := { maxSteps := 400000 }) only [List.any_cons, List.any_nil, Bool.or_false, go_sem, ↓reduceIte, reduceCtorEq, Nat.reduceEqDiff, Nat.reduceAdd, Nat.reduceLT, Nat.reduceLeDiff, Nat.reduceSub, Int.reduceToNat, Int.reduceLE, Int.reduceLT, Int.reduceNeg, Int.reduceBEq, Int.reduceBNe, Nat.reduceMul, Int.reduceAdd, Int.reduceMul, Int.reduceSub, Int.reduceEq, Int.reduceNe]
  cases h1 : gIn wax 0 ((l.length : Int) - 1)
  · simp (config := { maxSteps := 400000 }) only [pairPV, bdRaise, if_pos he', h1, go_sem, ↓reduceIte, reduceCtorEq, Nat.reduceEqDiff, Nat.reduceAdd, Nat.reduceLT, Nat.reduceLeDiff, Nat.reduceSub, Int.reduceToNat, Int.reduceLE, Int.reduceLT, Int.reduceNeg, Int.reduceBEq, Int.reduceBNe, Nat.reduceMul, Int.reduceAdd, Int.reduceMul, Int.reduceSub, Int.reduceEq, Int.reduceNe]
  simp (config := { maxSteps := 400000 }) only [go_sem, ↓reduceIte, reduceCtorEq, Nat.reduceEqDiff, Nat.reduceAdd, Nat.reduceLT, Nat.reduceLeDiff, Nat.reduceSub, Int.reduceToNat, Int.reduceLE, Int.reduceLT, Int.reduceNeg, Int.reduceBEq, Int.reduceBNe, Nat.reduceMul, Int.reduceAdd, Int.reduceMul, Int.reduceSub, Int.reduceEq, Int.reduceNe]
  (first | refine WF_pure (cBdOut 0 20 [_] true (by simp)) rfl ?_ | refine WDQ_pure (cBdOut 0 20 [_] true (by simp)) rfl ?_)
  simp (config := { maxSteps := 400000 }) only [List.any_cons, List.any_nil, Bool.or_false, go_sem, ↓reduceIte, reduceCtorEq, Nat.reduceEqDiff, Nat.reduceAdd, Nat.reduceLT, Nat.reduceLeDiff, Nat.reduceSub, Int.reduceToNat, Int.reduceLE, Int.reduceLT, Int.reduceNeg, Int.reduceBEq, Int.reduceBNe, Nat.reduceMul, Int.reduceAdd, Int.reduceMul, Int.reduceSub, Int.reduceEq, Int.reduceNe]
  cases h2 : gIn parts 0 20
  · simp (config := { maxSteps := 400000 }) only [pairPV, bdRaise, if_pos he', h1, h2, go_sem, ↓reduceIte, reduceCtorEq, Nat.reduceEqDiff, Nat.reduceAdd, Nat.reduceLT, Nat.reduceLeDiff, Nat.reduceSub, Int.reduceToNat, Int.reduceLE, Int.reduceLT, Int.reduceNeg, Int.reduceBEq, Int.reduceBNe, Nat.reduceMul, Int.reduceAdd, Int.reduceMul, Int.reduceSub, Int.reduceEq, Int.reduceNe]
  have hw : 0 ≤ wax ∧ wax < (l.length : Int) := by simp [gIn] at h1; omega
  obtain ⟨x, hx⟩ : ∃ x, l[wax.toNat]? = some x := ⟨_, List.getElem?_eq_getElem (by omega)⟩
  simp (config := { maxSteps := 400000 }) only [hw.1, hw.2, hx, go_sem, ↓reduceIte, reduceCtorEq, Nat.reduceEqDiff, Nat.reduceAdd, Nat.reduceLT, Nat.reduceLeDiff, Nat.reduceSub, Int.reduceToNat, Int.reduceLE, Int.reduceLT, Int.reduceNeg, Int.reduceBEq, Int.reduceBNe, Nat.reduceMul, Int.reduceAdd, Int.reduceMul, Int.reduceSub, Int.reduceEq, Int.reduceNe]
  (first | refine WF_pure (cBdAdd x.curve false parts (hok.wax x (List.mem_of_getElem? hx)).curve) rfl ?_ | refine WDQ_pure (cBdAdd x.curve false parts (hok.wax x (List.mem_of_getElem? hx)).curve) rfl ?_)
  simp (config := { maxSteps := 400000 }) only [pairPV, bdRaise, if_pos he', h1, h2, hx, go_sem, ↓reduceIte, reduceCtorEq, Nat.reduceEqDiff, Nat.reduceAdd, Nat.reduceLT, Nat.reduceLeDiff, Nat.reduceSub, Int.reduceToNat, Int.reduceLE, Int.reduceLT, Int.reduceNeg, Int.reduceBEq, Int.reduceBNe, Nat.reduceMul, Int.reduceAdd, Int.reduceMul, Int.reduceSub, Int.reduceEq, Int.reduceNe]
theorem cRefRaise (l : List BdWax) (wax parts : Int) : PCall Try.prog 18 [bdWaxes l, .int .i64 wax, .int .i64 parts] (pairPV (bdRaise l wax parts)) := by
  refine pcall_of_wp draws (fn := Try.f18) (n := 44) (rs := [.tmp 6, .tmp 7]) (by kernel_rfl) rfl rfl rfl ok18 (Nat.le_of_ble_eq_true rfl) ?_
  simp (config := { maxSteps := 400000 }) only [go_sem, ↓reduceIte, reduceCtorEq, Nat.reduceEqDiff, Nat.reduceAdd, Nat.reduceLT, Nat.reduceLeDiff, Nat.reduceSub, Int.reduceToNat, Int.reduceLE, Int.reduceLT, Int.reduceNeg, Int.reduceBEq, Int.reduceBNe, Nat.reduceMul, Int.reduceAdd, Int.reduceMul, Int.reduceSub, Int.reduceEq, Int.reduceNe]
  (first | refine WF_pure (cRefBdCheck l) rfl ?_ | refine WDQ_pure (cRefBdCheck l) rfl ?_)
  simp (config := { maxSteps := 400000 }) only [triple, go_sem, ↓reduceIte, reduceCtorEq, Nat.reduceEqDiff, Nat.reduceAdd, Nat.reduceLT, Nat.reduceLeDiff, Nat.reduceSub, Int.reduceToNat, Int.reduceLE, Int.reduceLT, Int.reduceNeg, Int.reduceBEq, Int.reduceBNe, Nat.reduceMul, Int.reduceAdd, Int.reduceMul, Int.reduceSub, Int.reduceEq, Int.reduceNe]
  cases he : ((bdCheck l).2.2 == 0)
  · have he' : ¬ bdE l = 0 := by simpa [bdE] using he
    have hen : ((bdCheck l).2.2 != 0) = true := by simp [bne, he]
    simp (config := { maxSteps := 400000 }) only [he, hen, pairPV, bdRaise, if_neg he', go_sem, ↓reduceIte, reduceCtorEq, Nat.reduceEqDiff, Nat.reduceAdd, Nat.reduceLT, Nat.reduceLeDiff, Nat.reduceSub, Int.reduceToNat, Int.reduceLE, Int.reduceLT, Int.reduceNeg, Int.reduceBEq, Int.reduceBNe, Nat.reduceMul, Int.reduceAdd, Int.reduceMul, Int.reduceSub, Int.reduceEq, Int.reduceNe]
    rfl
  have he' : bdE l = 0 := by simpa [bdE] using he
  have hok := bdWaxesOk_of he'
  have hen : ((bdCheck l).2.2 != 0) = false := by simp [bne, he]
  simp (config := { maxSteps := 400000 }) only [len_dec hok, go_sem, ↓reduceIte, reduceCtorEq, Nat.reduceEqDiff, Nat.reduceAdd, Nat.reduceLT, Nat.reduceLeDiff, Nat.reduceSub, Int.reduceToNat, Int.reduceLE, Int.reduceLT, Int.reduceNeg, Int.reduceBEq, Int.reduceBNe, Nat.reduceMul, Int.reduceAdd, Int.reduceMul, Int.reduceSub, Int.reduceEq, Int.reduceNe]
  (first | refine WF_pure (cIn1 _ _ _) rfl ?_ | refine WDQ_pure (cIn1 _ _ _) rfl ?_)
  simp (config := { maxSteps := 400000 }) only [go_sem, ↓reduceIte, reduceCtorEq, Nat.reduceEqDiff, Nat.reduceAdd, Nat.reduceLT, Nat.reduceLeDiff, Nat.reduceSub, Int.reduceToNat, Int.reduceLE, Int.reduceLT, Int.reduceNeg, Int.reduceBEq, Int.reduceBNe, Nat.reduceMul, Int.reduceAdd, Int.reduceMul, Int.reduceSub, Int.reduceEq, Int.reduceNe]
  cases h1 : gIn wax 0 ((l.length : Int) - 1)
  · simp (config := { maxSteps := 400000 }) only [pairPV, bdRaise, if_pos he', h1, go_sem, ↓reduceIte, reduceCtorEq, Nat.reduceEqDiff, Nat.reduceAdd, Nat.reduceLT, Nat.reduceLeDiff, Nat.reduceSub, Int.reduceToNat, Int.reduceLE, Int.reduceLT, Int.reduceNeg, Int.reduceBEq, Int.reduceBNe, Nat.reduceMul, Int.reduceAdd, Int.reduceMul, Int.reduceSub, Int.reduceEq, Int.reduceNe]
  simp (config := { maxSteps := 400000 }) only [he, go_sem, ↓reduceIte, reduceCtorEq, Nat.reduceEqDiff, Nat.reduceAdd, Nat.reduceLT, Nat.reduceLeDiff, Nat.reduceSub, Int.reduceToNat, Int.reduceLE, Int.reduceLT, Int.reduceNeg, Int.reduceBEq, Int.reduceBNe, Nat.reduceMul, Int.reduceAdd, Int.reduceMul, Int.reduceSub, Int.reduceEq, Int.reduceNe]
  (first | refine WF_pure (cIn1 _ _ _) rfl ?_ | refine WDQ_pure (cIn1 _ _ _) rfl ?_)
  simp (config := { maxSteps := 400000 }) only [go_sem, ↓reduceIte, reduceCtorEq, Nat.reduceEqDiff, Nat.reduceAdd, Nat.reduceLT, Nat.reduceLeDiff, Nat.reduceSub, Int.reduceToNat, Int.reduceLE, Int.reduceLT, Int.reduceNeg, Int.reduceBEq, Int.reduceBNe, Nat.reduceMul, Int.reduceAdd, Int.reduceMul, Int.reduceSub, Int.reduceEq, Int.reduceNe]
  cases h2 : gIn parts 0 20
  · simp (config := { maxSteps := 400000 }) only [pairPV, bdRaise, if_pos he', h1, h2, go_sem, ↓reduceIte, reduceCtorEq, Nat.reduceEqDiff, Nat.reduceAdd, Nat.reduceLT, Nat.reduceLeDiff, Nat.reduceSub, Int.reduceToNat, Int.reduceLE, Int.reduceLT, Int.reduceNeg, Int.reduceBEq, Int.reduceBNe, Nat.reduceMul, Int.reduceAdd, Int.reduceMul, Int.reduceSub, Int.reduceEq, Int.reduceNe]
  have hw : 0 ≤ wax ∧ wax < (l.length : Int) := by simp [gIn] at h1; omega
  obtain ⟨x, hx⟩ : ∃ x, l[wax.toNat]? = some x := ⟨_, List.getElem?_eq_getElem (by omega)⟩
  simp (config := { maxSteps := 400000 }) only [hen, hw.1, hw.2, hx, go_sem, ↓reduceIte, reduceCtorEq, Nat.reduceEqDiff, Nat.reduceAdd, Nat.reduceLT, Nat.reduceLeDiff, Nat.reduceSub, Int.reduceToNat, Int.reduceLE, Int.reduceLT, Int.reduceNeg, Int.reduceBEq, Int.reduceBNe, Nat.reduceMul, Int.reduceAdd, Int.reduceMul, Int.reduceSub, Int.reduceEq, Int.reduceNe]
  (first | refine WF_pure (cRefAdd x.curve false parts (hok.wax x (List.mem_of_getElem? hx)).curve) rfl ?_ | refine WDQ_pure (cRefAdd x.curve false parts (hok.wax x (List.mem_of_getElem? hx)).curve) rfl ?_)
  simp (config := { maxSteps := 400000 }) only [pairPV, bdRaise, if_pos he', h1, h2, hx, go_sem, ↓reduceIte, reduceCtorEq, Nat.reduceEqDiff, Nat.reduceAdd, Nat.reduceLT, Nat.reduceLeDiff, Nat.reduceSub, Int.reduceToNat, Int.reduceLE, Int.reduceLT, Int.reduceNeg, Int.reduceBEq, Int.reduceBNe, Nat.reduceMul, Int.reduceAdd, Int.reduceMul, Int.reduceSub, Int.reduceEq, Int.reduceNe]

/-! the error of a wish -/
def lvl (a b : Bool) : Int := if a = true then 7 else if b = true then 2 else 0
theorem gSpan_lvl (s : Span) (a b : Int) : gSpan s.lo s.hi a b = lvl (!inS s a b) (turnedS s) := by
  rw [gSpan_inS]; unfold lvl; cases inS s a b <;> cases turnedS s <;> rfl
def wishOut (w : BdWish) : Bool := !(inS w.melt 0 2000 && inS w.shrink 0 1000)
def wishTurned (w : BdWish) : Bool := turnedS w.melt || turnedS w.shrink
def wishErr (l : List BdWax) (w : BdWish) : Int :=
  if bdE l = 0 then
    if w.parts.length = l.length then lvl (wishOut w || w.parts.any fun s => !inS s 0 20) (wishTurned w || w.parts.any turnedS)
    else 3
  else bdE l
theorem spansErr_lvl (w : BdWish) : spansErr w.melt w.shrink = lvl (wishOut w) (wishTurned w) := by
  unfold spansErr lvl wishOut wishTurned
  cases (inS w.melt 0 2000 && inS w.shrink 0 1000) <;> cases (turnedS w.melt || turnedS w.shrink) <;> rfl
structure WishOk (m : Nat) (w : BdWish) : Prop where
  len : w.parts.length = m
  melt : 0 ≤ w.melt.lo ∧ w.melt.lo ≤ w.melt.hi ∧ w.melt.hi ≤ 2000
  shrink : 0 ≤ w.shrink.lo ∧ w.shrink.lo ≤ w.shrink.hi ∧ w.shrink.hi ≤ 1000
  parts : ∀ s, s ∈ w.parts → 0 ≤ s.lo ∧ s.lo ≤ s.hi ∧ s.hi ≤ 20
theorem wishOk_of {l : List BdWax} {w : BdWish} (h : wishErr l w = 0) : BdWaxesOk l ∧ WishOk l.length w := by
  unfold wishErr at h
  split at h
  · rename_i he
    split at h
    · rename_i hl
      refine ⟨bdWaxesOk_of he, ?_⟩
      unfold lvl at h
      split at h
      · cases h
      · rename_i ho
        split at h
        · cases h
        · rename_i ht
          simp [wishOut, wishTurned, inS, gIn, turnedS] at ho ht
          refine ⟨hl, by omega, by omega, fun s hs => ?_⟩
          have := ho.2 s hs
          have := ht.2 s hs
          omega
    · cases h
  · rename_i he; exact absurd h he
theorem cOdd (l : List BdWax) (w : BdWish) : PCall Try.prog 71 [bdWaxes l, w.pv] (.int .i64 (wishErr l w)) := by
  refine pcall_of_wp draws (fn := Try.f71) (n := 90) (rs := [.tmp 4]) (by kernel_rfl) rfl rfl rfl ok71 (Nat.le_of_ble_eq_true rfl) ?_
  simp (config := { maxSteps := 400000 }) only [go_sem, ↓reduceIte, reduceCtorEq, Nat.reduceEqDiff, Nat.reduceAdd, Nat.reduceLT, Nat.reduceLeDiff, Nat.reduceSub, Int.reduceToNat, Int.reduceLE, Int.reduceLT, Int.reduceNeg, Int.reduceBEq, Int.reduceBNe, Nat.reduceMul, Int.reduceAdd, Int.reduceMul, Int.reduceSub, Int.reduceEq, Int.reduceNe]
  (first | refine WF_pure (cBdCheck l) rfl ?_ | refine WDQ_pure (cBdCheck l) rfl ?_)
  simp (config := { maxSteps := 400000 }) only [triple, go_sem, ↓reduceIte, reduceCtorEq, Nat.reduceEqDiff, Nat.reduceAdd, Nat.reduceLT, Nat.reduceLeDiff, Nat.reduceSub, Int.reduceToNat, Int.reduceLE, Int.reduceLT, Int.reduceNeg, Int.reduceBEq, Int.reduceBNe, Nat.reduceMul, Int.reduceAdd, Int.reduceMul, Int.reduceSub, Int.reduceEq, Int.reduceNe]
  refine WB_split (fun he => ?_) (fun he => ?_)
  · have he' : ¬ bdE l = 0 := by simpa [bdE] using he
    simp (config := { maxSteps := 400000 }) only [wishErr, if_neg he', go_sem, ↓reduceIte, reduceCtorEq, Nat.reduceEqDiff, Nat.reduceAdd, Nat.reduceLT, Nat.reduceLeDiff, Nat.reduceSub, Int.reduceToNat, Int.reduceLE, Int.reduceLT, Int.reduceNeg, Int.reduceBEq, Int.reduceBNe, Nat.reduceMul, Int.reduceAdd, Int.reduceMul, Int.reduceSub, Int.reduceEq, Int.reduceNe]
    rfl
  have he' : bdE l = 0 := by simpa [bdE] using he
  have hok := (bdWaxesOk_of he').len
  simp (config := { maxSteps := 400000 }) only [go_sem, ↓reduceIte, reduceCtorEq, Nat.reduceEqDiff, Nat.reduceAdd, Nat.reduceLT, Nat.reduceLeDiff, Nat.reduceSub, Int.reduceToNat, Int.reduceLE, Int.reduceLT, Int.reduceNeg, Int.reduceBEq, Int.reduceBNe, Nat.reduceMul, Int.reduceAdd, Int.reduceMul, Int.reduceSub, Int.reduceEq, Int.reduceNe]
  refine WB_split (fun hb => ?_) (fun hb => ?_)
  · have : ¬ (w.parts.length = l.length) := by simp [bne] at hb; omega
    simp (config := { maxSteps := 400000 }) only [wishErr, if_pos he', if_neg this, go_sem, ↓reduceIte, reduceCtorEq, Nat.reduceEqDiff, Nat.reduceAdd, Nat.reduceLT, Nat.reduceLeDiff, Nat.reduceSub, Int.reduceToNat, Int.reduceLE, Int.reduceLT, Int.reduceNeg, Int.reduceBEq, Int.reduceBNe, Nat.reduceMul, Int.reduceAdd, Int.reduceMul, Int.reduceSub, Int.reduceEq, Int.reduceNe]
  have hlen : w.parts.length = l.length := by simp [bne] at hb; omega
  have hspec : wishErr l w = lvl (wishOut w || w.parts.any fun s => !inS s 0 20) (wishTurned w || w.parts.any turnedS) := by rw [wishErr, if_pos he', if_pos hlen]
  rw [hspec]
  have ho : wishOut w = !(gIn w.melt.lo 0 2000 && gIn w.melt.hi 0 2000 && (gIn w.shrink.lo 0 1000 && gIn w.shrink.hi 0 1000)) := rfl
  have ht : wishTurned w = (decide (w.melt.hi < w.melt.lo) || decide (w.shrink.hi < w.shrink.lo)) := rfl
  simp (config := { maxSteps := 400000 }) only [go_sem, ↓reduceIte, reduceCtorEq, Nat.reduceEqDiff, Nat.reduceAdd, Nat.reduceLT, Nat.reduceLeDiff, Nat.reduceSub, Int.reduceToNat, Int.reduceLE, Int.reduceLT, Int.reduceNeg, Int.reduceBEq, Int.reduceBNe, Nat.reduceMul, Int.reduceAdd, Int.reduceMul, Int.reduceSub, Int.reduceEq, Int.reduceNe]
  cases ht1 : decide (w.melt.hi < w.melt.lo)
  all_goals
    rw [ht1] at ht
    simp only [Bool.true_or, Bool.false_or] at ht
    simp (config := { maxSteps := 400000 }) only [ht1, go_sem, ↓reduceIte, reduceCtorEq, Nat.reduceEqDiff, Nat.reduceAdd, Nat.reduceLT, Nat.reduceLeDiff, Nat.reduceSub, Int.reduceToNat, Int.reduceLE, Int.reduceLT, Int.reduceNeg, Int.reduceBEq, Int.reduceBNe, Nat.reduceMul, Int.reduceAdd, Int.reduceMul, Int.reduceSub, Int.reduceEq, Int.reduceNe]
    (first | refine WF_pure (cBdOut 0 2000 [_, _] true (by simp)) rfl ?_ | refine WDQ_pure (cBdOut 0 2000 [_, _] true (by simp)) rfl ?_)
    simp (config := { maxSteps := 400000 }) only [List.any_cons, List.any_nil, Bool.or_false, ← Bool.not_and, go_sem, ↓reduceIte, reduceCtorEq, Nat.reduceEqDiff, Nat.reduceAdd, Nat.reduceLT, Nat.reduceLeDiff, Nat.reduceSub, Int.reduceToNat, Int.reduceLE, Int.reduceLT, Int.reduceNeg, Int.reduceBEq, Int.reduceBNe, Nat.reduceMul, Int.reduceAdd, Int.reduceMul, Int.reduceSub, Int.reduceEq, Int.reduceNe]
    cases ho1 : (gIn w.melt.lo 0 2000 && gIn w.melt.hi 0 2000)
  all_goals
    rw [ho1] at ho
    simp only [Bool.true_and, Bool.false_and, Bool.not_false] at ho
    simp (config := { maxSteps := 400000 }) only [ho1, go_sem, ↓reduceIte, reduceCtorEq, Nat.reduceEqDiff, Nat.reduceAdd, Nat.reduceLT, Nat.reduceLeDiff, Nat.reduceSub, Int.reduceToNat, Int.reduceLE, Int.reduceLT, Int.reduceNeg, Int.reduceBEq, Int.reduceBNe, Nat.reduceMul, Int.reduceAdd, Int.reduceMul, Int.reduceSub, Int.reduceEq, Int.reduceNe]
    try
      (first | refine WF_pure (cBdOut 0 1000 [_, _] true (by simp)) rfl ?_ | refine WDQ_pure (cBdOut 0 1000 [_, _] true (by simp)) rfl ?_)
      simp (config := { maxSteps := 400000 }) only [List.any_cons, List.any_nil, Bool.or_false, ← Bool.not_and, ← ho, go_sem, ↓reduceIte, reduceCtorEq, Nat.reduceEqDiff, Nat.reduceAdd, Nat.reduceLT, Nat.reduceLeDiff, Nat.reduceSub, Int.reduceToNat, Int.reduceLE, Int.reduceLT, Int.reduceNeg, Int.reduceBEq, Int.reduceBNe, Nat.reduceMul, Int.reduceAdd, Int.reduceMul, Int.reduceSub, Int.reduceEq, Int.reduceNe]
    refine W_rangeA [62, 63] w.parts (by omega) (τ := Bool × Bool) (fun done rest q => (wishOut w || w.parts.any fun s => !inS s 0 20) = (q.1 || rest.any fun s => !inS s 0 20) ∧ (wishTurned w || w.parts.any turnedS) = (q.2 || rest.any turnedS))
      (fun done q => [(64, .p (.int .i64 done.length)), (8, .p (.bool q.2)), (9, .p (.bool q.1))]) (fun _ _ => [.row 5 [.p w.pv]]) (wishOut w, wishTurned w) ⟨rfl, rfl⟩ ?_ ?_ ?_
    · simp (config := { maxSteps := 400000 }) only [ho, ht, go_sem, ↓reduceIte, reduceCtorEq, Nat.reduceEqDiff, Nat.reduceAdd, Nat.reduceLT, Nat.reduceLeDiff, Nat.reduceSub, Int.reduceToNat, Int.reduceLE, Int.reduceLT, Int.reduceNeg, Int.reduceBEq, Int.reduceBNe, Nat.reduceMul, Int.reduceAdd, Int.reduceMul, Int.reduceSub, Int.reduceEq, Int.reduceNe] <;> simp
    · rintro ⟨a, b⟩ ⟨g1, g2⟩
      dsimp only at g1 g2
      rw [g1, g2]
      cases a <;> cases b <;> simp (config := { maxSteps := 400000 }) only [List.any_nil, lvl, go_sem, ↓reduceIte, reduceCtorEq, Nat.reduceEqDiff, Nat.reduceAdd, Nat.reduceLT, Nat.reduceLeDiff, Nat.reduceSub, Int.reduceToNat, Int.reduceLE, Int.reduceLT, Int.reduceNeg, Int.reduceBEq, Int.reduceBNe, Nat.reduceMul, Int.reduceAdd, Int.reduceMul, Int.reduceSub, Int.reduceEq, Int.reduceNe]
    · rintro done x r ⟨a, b⟩ e1 ⟨g1, g2⟩ hx hlt hnx
      dsimp only at g1 g2
      rw [List.any_cons] at g1 g2
      cases a <;> cases b <;> simp (config := { maxSteps := 400000 }) only [hlt, hx, go_sem, ↓reduceIte, reduceCtorEq, Nat.reduceEqDiff, Nat.reduceAdd, Nat.reduceLT, Nat.reduceLeDiff, Nat.reduceSub, Int.reduceToNat, Int.reduceLE, Int.reduceLT, Int.reduceNeg, Int.reduceBEq, Int.reduceBNe, Nat.reduceMul, Int.reduceAdd, Int.reduceMul, Int.reduceSub, Int.reduceEq, Int.reduceNe]
      all_goals
        try
          (first | refine WF_pure (cBdOut 0 20 [_, _] true (by simp)) rfl ?_ | refine WDQ_pure (cBdOut 0 20 [_, _] true (by simp)) rfl ?_)
          simp (config := { maxSteps := 400000 }) only [List.any_cons, List.any_nil, Bool.or_false, ← Bool.not_and, go_sem, ↓reduceIte, reduceCtorEq, Nat.reduceEqDiff, Nat.reduceAdd, Nat.reduceLT, Nat.reduceLeDiff, Nat.reduceSub, Int.reduceToNat, Int.reduceLE, Int.reduceLT, Int.reduceNeg, Int.reduceBEq, Int.reduceBNe, Nat.reduceMul, Int.reduceAdd, Int.reduceMul, Int.reduceSub, Int.reduceEq, Int.reduceNe]
        first
          | (refine WQ_next e1 (!inS x 0 20, turnedS x) ⟨by simpa using g1, by simpa using g2⟩ ?_
             simp (config := { maxSteps := 400000 }) only [hnx, inS, turnedS, go_sem, ↓reduceIte, reduceCtorEq, Nat.reduceEqDiff, Nat.reduceAdd, Nat.reduceLT, Nat.reduceLeDiff, Nat.reduceSub, Int.reduceToNat, Int.reduceLE, Int.reduceLT, Int.reduceNeg, Int.reduceBEq, Int.reduceBNe, Nat.reduceMul, Int.reduceAdd, Int.reduceMul, Int.reduceSub, Int.reduceEq, Int.reduceNe]; done)
          | (refine WQ_next e1 (!inS x 0 20, true) ⟨by simpa using g1, by simpa using g2⟩ ?_
             simp (config := { maxSteps := 400000 }) only [hnx, inS, turnedS, go_sem, ↓reduceIte, reduceCtorEq, Nat.reduceEqDiff, Nat.reduceAdd, Nat.reduceLT, Nat.reduceLeDiff, Nat.reduceSub, Int.reduceToNat, Int.reduceLE, Int.reduceLT, Int.reduceNeg, Int.reduceBEq, Int.reduceBNe, Nat.reduceMul, Int.reduceAdd, Int.reduceMul, Int.reduceSub, Int.reduceEq, Int.reduceNe]; done)
          | (refine WQ_next e1 (true, turnedS x) ⟨by simpa using g1, by simpa using g2⟩ ?_
             simp (config := { maxSteps := 400000 }) only [hnx, inS, turnedS, go_sem, ↓reduceIte, reduceCtorEq, Nat.reduceEqDiff, Nat.reduceAdd, Nat.reduceLT, Nat.reduceLeDiff, Nat.reduceSub, Int.reduceToNat, Int.reduceLE, Int.reduceLT, Int.reduceNeg, Int.reduceBEq, Int.reduceBNe, Nat.reduceMul, Int.reduceAdd, Int.reduceMul, Int.reduceSub, Int.reduceEq, Int.reduceNe]; done)
          | (refine WQ_next e1 (true, true) ⟨by simpa using g1, by simpa using g2⟩ ?_
             simp (config := { maxSteps := 400000 }) only [hnx, inS, turnedS, go_sem, ↓reduceIte, reduceCtorEq, Nat.reduceEqDiff, Nat.reduceAdd, Nat.reduceLT, Nat.reduceLeDiff, Nat.reduceSub, Int.reduceToNat, Int.reduceLE, Int.reduceLT, Int.reduceNeg, Int.reduceBEq, Int.reduceBNe, Nat.reduceMul, Int.reduceAdd, Int.reduceMul, Int.reduceSub, Int.reduceEq, Int.reduceNe])
theorem cRefWish (l : List BdWax) (w : BdWish) : PCall Try.prog 40 [bdWaxes l, w.pv] (.int .i64 (wishErr l w)) := by
  refine pcall_of_wp draws (fn := Try.f40) (n := 56) (rs := [.tmp 4]) (by kernel_rfl) rfl rfl rfl ok40 (Nat.le_of_ble_eq_true rfl) ?_
  simp (config := { maxSteps := 400000 }) only [go_sem, ↓reduceIte, reduceCtorEq, Nat.reduceEqDiff, Nat.reduceAdd, Nat.reduceLT, Nat.reduceLeDiff, Nat.reduceSub, Int.reduceToNat, Int.reduceLE, Int.reduceLT, Int.reduceNeg, Int.reduceBEq, Int.reduceBNe, Nat.reduceMul, Int.reduceAdd, Int.reduceMul, Int.reduceSub, Int.reduceEq, Int.reduceNe]
  (first | refine WF_pure (cRefBdCheck l) rfl ?_ | refine WDQ_pure (cRefBdCheck l) rfl ?_)
  simp (config := { maxSteps := 400000 }) only [triple, go_sem, ↓reduceIte, reduceCtorEq, Nat.reduceEqDiff, Nat.reduceAdd, Nat.reduceLT, Nat.reduceLeDiff, Nat.reduceSub, Int.reduceToNat, Int.reduceLE, Int.reduceLT, Int.reduceNeg, Int.reduceBEq, Int.reduceBNe, Nat.reduceMul, Int.reduceAdd, Int.reduceMul, Int.reduceSub, Int.reduceEq, Int.reduceNe]
  cases he : ((bdCheck l).2.2 == 0)
  · have he' : ¬ bdE l = 0 := by simpa [bdE] using he
    have hen : ((bdCheck l).2.2 != 0) = true := by simp [bne, he]
    simp (config := { maxSteps := 400000 }) only [he, hen, wishErr, if_neg he', go_sem, ↓reduceIte, reduceCtorEq, Nat.reduceEqDiff, Nat.reduceAdd, Nat.reduceLT, Nat.reduceLeDiff, Nat.reduceSub, Int.reduceToNat, Int.reduceLE, Int.reduceLT, Int.reduceNeg, Int.reduceBEq, Int.reduceBNe, Nat.reduceMul, Int.reduceAdd, Int.reduceMul, Int.reduceSub, Int.reduceEq, Int.reduceNe]
    rfl
  have he' : bdE l = 0 := by simpa [bdE] using he
  have hen : ((bdCheck l).2.2 != 0) = false := by simp [bne, he]
  have hok := (bdWaxesOk_of he').len
  simp (config := { maxSteps := 400000 }) only [go_sem, ↓reduceIte, reduceCtorEq, Nat.reduceEqDiff, Nat.reduceAdd, Nat.reduceLT, Nat.reduceLeDiff, Nat.reduceSub, Int.reduceToNat, Int.reduceLE, Int.reduceLT, Int.reduceNeg, Int.reduceBEq, Int.reduceBNe, Nat.reduceMul, Int.reduceAdd, Int.reduceMul, Int.reduceSub, Int.reduceEq, Int.reduceNe]
  refine WB_split (fun hb => ?_) (fun hb => ?_)
  · have : ¬ (w.parts.length = l.length) := by simp [bne] at hb; omega
    simp (config := { maxSteps := 400000 }) only [wishErr, if_pos he', if_neg this, go_sem, ↓reduceIte, reduceCtorEq, Nat.reduceEqDiff, Nat.reduceAdd, Nat.reduceLT, Nat.reduceLeDiff, Nat.reduceSub, Int.reduceToNat, Int.reduceLE, Int.reduceLT, Int.reduceNeg, Int.reduceBEq, Int.reduceBNe, Nat.reduceMul, Int.reduceAdd, Int.reduceMul, Int.reduceSub, Int.reduceEq, Int.reduceNe]
  have hlen : w.parts.length = l.length := by simp [bne] at hb; omega
  have hspec : wishErr l w = lvl (wishOut w || w.parts.any fun s => !inS s 0 20) (wishTurned w || w.parts.any turnedS) := by rw [wishErr, if_pos he', if_pos hlen]
  rw [hspec]
  simp (config := { maxSteps := 400000 }) only [hen, go_sem, ↓reduceIte, reduceCtorEq, Nat.reduceEqDiff, Nat.reduceAdd, Nat.reduceLT, Nat.reduceLeDiff, Nat.reduceSub, Int.reduceToNat, Int.reduceLE, Int.reduceLT, Int.reduceNeg, Int.reduceBEq, Int.reduceBNe, Nat.reduceMul, Int.reduceAdd, Int.reduceMul, Int.reduceSub, Int.reduceEq, Int.reduceNe]
  (first | refine WF_pure (cRefBdSpans w.melt w.shrink) rfl ?_ | refine WDQ_pure (cRefBdSpans w.melt w.shrink) rfl ?_)
  simp (config := { maxSteps := 400000 }) only [spansErr_lvl, go_sem, ↓reduceIte, reduceCtorEq, Nat.reduceEqDiff, Nat.reduceAdd, Nat.reduceLT, Nat.reduceLeDiff, Nat.reduceSub, Int.reduceToNat, Int.reduceLE, Int.reduceLT, Int.reduceNeg, Int.reduceBEq, Int.reduceBNe, Nat.reduceMul, Int.reduceAdd, Int.reduceMul, Int.reduceSub, Int.reduceEq, Int.reduceNe]
  refine W_rangeA [3] w.parts (by omega) (τ := Bool × Bool) (fun done rest q => (wishOut w || w.parts.any fun s => !inS s 0 20) = (q.1 || rest.any fun s => !inS s 0 20) ∧ (wishTurned w || w.parts.any turnedS) = (q.2 || rest.any turnedS))
    (fun done q => [(9, .p (.int .i64 done.length)), (8, .p (.int .i64 (lvl q.1 q.2)))]) (fun _ _ => [.row 5 [.p w.pv]]) (wishOut w, wishTurned w) ⟨rfl, rfl⟩ ?_ ?_ ?_
  · simp (config := { maxSteps := 400000 }) only [go_sem, ↓reduceIte, reduceCtorEq, Nat.reduceEqDiff, Nat.reduceAdd, Nat.reduceLT, Nat.reduceLeDiff, Nat.reduceSub, Int.reduceToNat, Int.reduceLE, Int.reduceLT, Int.reduceNeg, Int.reduceBEq, Int.reduceBNe, Nat.reduceMul, Int.reduceAdd, Int.reduceMul, Int.reduceSub, Int.reduceEq, Int.reduceNe] <;> simp
  · rintro ⟨a, b⟩ ⟨g1, g2⟩
    dsimp only at g1 g2
    simp (config := { maxSteps := 400000 }) only [go_sem, ↓reduceIte, reduceCtorEq, Nat.reduceEqDiff, Nat.reduceAdd, Nat.reduceLT, Nat.reduceLeDiff, Nat.reduceSub, Int.reduceToNat, Int.reduceLE, Int.reduceLT, Int.reduceNeg, Int.reduceBEq, Int.reduceBNe, Nat.reduceMul, Int.reduceAdd, Int.reduceMul, Int.reduceSub, Int.reduceEq, Int.reduceNe]
    rw [g1, g2]
    simp only [List.any_nil, Bool.or_false]
  · rintro done x r ⟨a, b⟩ e1 ⟨g1, g2⟩ hx hlt hnx
    dsimp only at g1 g2
    rw [List.any_cons, ← Bool.or_assoc] at g1 g2
    simp (config := { maxSteps := 400000 }) only [hlt, hx, go_sem, ↓reduceIte, reduceCtorEq, Nat.reduceEqDiff, Nat.reduceAdd, Nat.reduceLT, Nat.reduceLeDiff, Nat.reduceSub, Int.reduceToNat, Int.reduceLE, Int.reduceLT, Int.reduceNeg, Int.reduceBEq, Int.reduceBNe, Nat.reduceMul, Int.reduceAdd, Int.reduceMul, Int.reduceSub, Int.reduceEq, Int.reduceNe]
    (first | refine WF_pure (cSpan _ _ _ _) rfl ?_ | refine WDQ_pure (cSpan _ _ _ _) rfl ?_)
    simp (config := { maxSteps := 400000 }) only [gSpan_lvl, go_sem, ↓reduceIte, reduceCtorEq, Nat.reduceEqDiff, Nat.reduceAdd, Nat.reduceLT, Nat.reduceLeDiff, Nat.reduceSub, Int.reduceToNat, Int.reduceLE, Int.reduceLT, Int.reduceNeg, Int.reduceBEq, Int.reduceBNe, Nat.reduceMul, Int.reduceAdd, Int.reduceMul, Int.reduceSub, Int.reduceEq, Int.reduceNe]
    have next : ∀ c d e f, (lvl c d == 7) = e → (lvl a b == 0) = f → (if e = true then lvl c d else if f = true then lvl c d else lvl a b) = lvl (a || c) (b || d) := by
      intro c d e f h1 h2
      subst h1 h2
      cases a <;> cases b <;> cases c <;> cases d <;> rfl
    have nx := next (!inS x 0 20) (turnedS x)
    cases h1 : (lvl (!inS x 0 20) (turnedS x) == 7)
    · simp (config := { maxSteps := 400000 }) only [h1, go_sem, ↓reduceIte, reduceCtorEq, Nat.reduceEqDiff, Nat.reduceAdd, Nat.reduceLT, Nat.reduceLeDiff, Nat.reduceSub, Int.reduceToNat, Int.reduceLE, Int.reduceLT, Int.reduceNeg, Int.reduceBEq, Int.reduceBNe, Nat.reduceMul, Int.reduceAdd, Int.reduceMul, Int.reduceSub, Int.reduceEq, Int.reduceNe]
      cases h2 : (lvl a b == 0)
      · have := nx _ _ h1 h2
        simp (config := { maxSteps := 400000 }) only [h2, go_sem, ↓reduceIte, reduceCtorEq, Nat.reduceEqDiff, Nat.reduceAdd, Nat.reduceLT, Nat.reduceLeDiff, Nat.reduceSub, Int.reduceToNat, Int.reduceLE, Int.reduceLT, Int.reduceNeg, Int.reduceBEq, Int.reduceBNe, Nat.reduceMul, Int.reduceAdd, Int.reduceMul, Int.reduceSub, Int.reduceEq, Int.reduceNe]
        refine WQ_next e1 (a || !inS x 0 20, b || turnedS x) ⟨g1, g2⟩ ?_
        simp only [Bool.false_eq_true, if_false] at this
        simp (config := { maxSteps := 400000 }) only [hnx, this, go_sem, ↓reduceIte, reduceCtorEq, Nat.reduceEqDiff, Nat.reduceAdd, Nat.reduceLT, Nat.reduceLeDiff, Nat.reduceSub, Int.reduceToNat, Int.reduceLE, Int.reduceLT, Int.reduceNeg, Int.reduceBEq, Int.reduceBNe, Nat.reduceMul, Int.reduceAdd, Int.reduceMul, Int.reduceSub, Int.reduceEq, Int.reduceNe]
      · have := nx _ _ h1 h2
        simp (config := { maxSteps := 400000 }) only [h2, go_sem, ↓reduceIte, reduceCtorEq, Nat.reduceEqDiff, Nat.reduceAdd, Nat.reduceLT, Nat.reduceLeDiff, Nat.reduceSub, Int.reduceToNat, Int.reduceLE, Int.reduceLT, Int.reduceNeg, Int.reduceBEq, Int.reduceBNe, Nat.reduceMul, Int.reduceAdd, Int.reduceMul, Int.reduceSub, Int.reduceEq, Int.reduceNe]
        refine WQ_next e1 (a || !inS x 0 20, b || turnedS x) ⟨g1, g2⟩ ?_
        simp only [Bool.false_eq_true, if_false, if_true] at this
        simp (config := { maxSteps := 400000 }) only [hnx, this, go_sem, ↓reduceIte, reduceCtorEq, Nat.reduceEqDiff, Nat.reduceAdd, Nat.reduceLT, Nat.reduceLeDiff, Nat.reduceSub, Int.reduceToNat, Int.reduceLE, Int.reduceLT, Int.reduceNeg, Int.reduceBEq, Int.reduceBNe, Nat.reduceMul, Int.reduceAdd, Int.reduceMul, Int.reduceSub, Int.reduceEq, Int.reduceNe]
    · have := nx _ false h1
      simp (config := { maxSteps := 400000 }) only [h1, go_sem, ↓reduceIte, reduceCtorEq, Nat.reduceEqDiff, Nat.reduceAdd, Nat.reduceLT, Nat.reduceLeDiff, Nat.reduceSub, Int.reduceToNat, Int.reduceLE, Int.reduceLT, Int.reduceNeg, Int.reduceBEq, Int.reduceBNe, Nat.reduceMul, Int.reduceAdd, Int.reduceMul, Int.reduceSub, Int.reduceEq, Int.reduceNe]
      refine WQ_next e1 (a || !inS x 0 20, b || turnedS x) ⟨g1, g2⟩ ?_
      have h3 : lvl (!inS x 0 20) (turnedS x) = lvl (a || !inS x 0 20) (b || turnedS x) := by
        cases h2 : (lvl a b == 0) <;> (have := nx _ _ h1 h2; simpa using this)
      simp (config := { maxSteps := 400000 }) only [hnx, h3, go_sem, ↓reduceIte, reduceCtorEq, Nat.reduceEqDiff, Nat.reduceAdd, Nat.reduceLT, Nat.reduceLeDiff, Nat.reduceSub, Int.reduceToNat, Int.reduceLE, Int.reduceLT, Int.reduceNeg, Int.reduceBEq, Int.reduceBNe, Nat.reduceMul, Int.reduceAdd, Int.reduceMul, Int.reduceSub, Int.reduceEq, Int.reduceNe]
end Abs
end Go.Proofs.Ythekmbikolpmlaa
