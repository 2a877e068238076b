/-
  CONTRACTS: Made, in the program and in the reference.
-/
import Derived.Test.YthekmbikolpmlaaBdWhy
namespace Go.Proofs.Ythekmbikolpmlaa
namespace Abs
set_option linter.unusedSimpArgs false
set_option maxRecDepth 4000

/-- waxes, their parts and their lots, side by side -/
abbrev Ts := List ((BdWax × Int) × BdLot)
def lotIn (t : (BdWax × Int) × BdLot) : Bool := gIn t.2.melt t.1.1.melt.lo t.1.1.melt.hi && gIn t.2.shrink t.1.1.shrink.lo t.1.1.shrink.hi
def mMelt (t : (BdWax × Int) × BdLot) : Int := t.1.2 * t.2.melt
def mShrink (t : (BdWax × Int) × BdLot) : Int := t.1.2 * t.2.shrink
def bdMade (l : List BdWax) (r : List Int) (y : List BdLot) : Int × Int × Int :=
  if bdAsked l r = 0 then
    if y.length = l.length then
      if ((l.zip r).zip y).all lotIn = true then (sumP fRaise (l.zip r) + (((l.zip r).zip y).map mMelt).sum, (((l.zip r).zip y).map mShrink).sum, 0) else (0, 0, 7)
    else (0, 0, 3)
  else (0, 0, bdAsked l r)
/-- the lists, out of the one -/
theorem ts_of {l : List BdWax} {r : List Int} {y : List BdLot} (h1 : r.length = l.length) (h2 : y.length = l.length) :
    (((l.zip r).zip y).map fun t => t.1.1) = l ∧ (((l.zip r).zip y).map fun t => t.1.2) = r ∧ (((l.zip r).zip y).map fun t => t.2) = y := by
  have e1 : (((l.zip r).zip y).map fun t => t.1) = l.zip r := by have := zip_fst (fun x => x) (l := l.zip r) (r := y) (by simp; omega); simpa using this
  have e2 : (((l.zip r).zip y).map fun t => t.2) = y := by have := zip_snd (fun x => x) (l := l.zip r) (r := y) (by simp; omega); simpa using this
  refine ⟨?_, ?_, e2⟩
  · have : (((l.zip r).zip y).map fun t => t.1.1) = (((l.zip r).zip y).map fun t => t.1).map Prod.fst := by rw [List.map_map]; rfl
    rw [this, e1]
    have := zip_fst (fun x => x) (l := l) (r := r) h1; simpa using this
  · have : (((l.zip r).zip y).map fun t => t.1.2) = (((l.zip r).zip y).map fun t => t.1).map Prod.snd := by rw [List.map_map]; rfl
    rw [this, e1]
    have := zip_snd (fun x => x) (l := l) (r := r) h1; simpa using this
theorem sumI_ts {ts : Ts} (g : BdLot → Int) (f : Nat → BdLot → Int) (hf : ∀ (i : Nat) t, ts[i]? = some t → f i t.2 = t.1.2 * g t.2) : sumI f (ts.map (·.2)) 0 = (ts.map fun t => t.1.2 * g t.2).sum := by
  have key : ∀ (l : Ts) (k : Nat), (∀ (i : Nat) t, l[i]? = some t → f (k + i) t.2 = t.1.2 * g t.2) → sumI f (l.map (·.2)) k = (l.map fun t => t.1.2 * g t.2).sum := by
    intro l
    induction l with
    | nil => intro k _; rfl
    | cons t l ih =>
      intro k h
      rw [List.map_cons, sumI, List.map_cons, List.sum_cons, ih (k + 1) fun i t hi => by rw [Nat.add_assoc, Nat.add_comm 1 i]; exact h (i + 1) t (by simpa using hi)]
      have := h 0 t rfl
      rw [Nat.add_zero] at this
      rw [this]
  exact key ts 0 fun i t hi => by rw [Nat.zero_add]; exact hf i t hi
structure TsOk (ts : Ts) : Prop where
  len : ts.length ≤ 5
  rng : ∀ t, t ∈ ts → (0 ≤ t.1.2 ∧ t.1.2 ≤ 20) ∧ (0 ≤ t.2.melt ∧ t.2.melt ≤ 2000) ∧ (0 ≤ t.2.shrink ∧ t.2.shrink ≤ 1000)
theorem tsOk_of {l : List BdWax} {r : List Int} {y : List BdLot} (hl : BdWaxesOk l) (hr : ∀ n, n ∈ r → 0 ≤ n ∧ n ≤ 20) (hy : ((l.zip r).zip y).all lotIn = true) : TsOk ((l.zip r).zip y) := by
  refine ⟨by have := hl.len; simp; omega, fun t ht => ?_⟩
  have h1 := List.all_eq_true.1 hy t ht
  obtain ⟨⟨x, n⟩, z⟩ := t
  have h2 := (List.of_mem_zip ht).1
  obtain ⟨h3, h4⟩ := List.of_mem_zip h2
  have h5 := hl.wax x h3
  have h6 := h5.melt
  have h7 := h5.shrink
  simp [lotIn, gIn] at h1
  exact ⟨hr n h4, by dsimp only; omega, by dsimp only; omega⟩
theorem ts_bd {t : (BdWax × Int) × BdLot} (h : (0 ≤ t.1.2 ∧ t.1.2 ≤ 20) ∧ (0 ≤ t.2.melt ∧ t.2.melt ≤ 2000) ∧ (0 ≤ t.2.shrink ∧ t.2.shrink ≤ 1000)) : (0 ≤ mMelt t ∧ mMelt t ≤ 40000) ∧ (0 ≤ mShrink t ∧ mShrink t ≤ 20000) :=
  ⟨mul_bd (B := 2000) h.1.1 h.1.2 h.2.1.1 h.2.1.2, mul_bd (B := 1000) h.1.1 h.1.2 h.2.2.1 h.2.2.2⟩
theorem sumL_bd {α : Type} {f : α → Int} {b : Int} : ∀ {l : List α}, (∀ t, t ∈ l → 0 ≤ f t ∧ f t ≤ b) → 0 ≤ (l.map f).sum ∧ (l.map f).sum ≤ b * (l.length : Int)
  | [], _ => by simp
  | t :: l, h => by
    have h1 := sumL_bd (f := f) (l := l) fun q hq => h q (by simp [hq])
    have h2 := h t (by simp)
    simp only [List.map_cons, List.sum_cons, List.length_cons]
    have e2 : b * ((l.length + 1 : Nat) : Int) = b * (l.length : Int) + b := by rw [Int.natCast_add, Int.mul_add]; simp
    omega
theorem ts_sums {ts : Ts} (h : TsOk ts) : (0 ≤ (ts.map mMelt).sum ∧ (ts.map mMelt).sum ≤ 200000) ∧ (0 ≤ (ts.map mShrink).sum ∧ (ts.map mShrink).sum ≤ 100000) := by
  have hl := h.len
  have h1 := sumL_bd (f := mMelt) fun t ht => (ts_bd (h.rng t ht)).1
  have h2 := sumL_bd (f := mShrink) fun t ht => (ts_bd (h.rng t ht)).2
  omega
theorem cMade0 (r : List Int) (b : Bool) (i : Nat) (n : Int) (y : BdLot) (hi : r[i]? = some n) (hn : 0 ≤ n ∧ n ≤ 20) (hm : 0 ≤ y.melt ∧ y.melt ≤ 2000) : PCall Try.prog 68 [.int .i64 i, y.pv, .ptr 1 [.slice 1 (r.map intPV) b] 0 0] (.int .i64 (n * y.melt)) := by
  refine pcall_of_wp draws (fn := Try.f68) (n := 13) (rs := [.tmp 5]) (by kernel_rfl) rfl rfl rfl ok68 (Nat.le_of_ble_eq_true rfl) ?_
  have hlt : ((i : Nat) : Int) < (r.length : Int) := by have := (List.getElem?_eq_some_iff.1 hi).1; omega
  have hb := mul_bd hn.1 hn.2 hm.1 hm.2
  have hw : IntKind.i64.wrap (n * y.melt) = n * y.melt := wrap_in (by omega) (by omega)
  simp (config := { maxSteps := 400000 }) only [hlt, hi, hw, go_sem, ↓reduceIte, reduceCtorEq, Nat.reduceEqDiff, Nat.reduceAdd, Nat.reduceLT, Nat.reduceLeDiff, Nat.reduceSub, Int.reduceToNat, Int.reduceLE, Int.reduceLT, Int.reduceNeg, Int.reduceBEq, Int.reduceBNe, Nat.reduceMul, Int.reduceAdd, Int.reduceMul, Int.reduceSub, Int.reduceEq, Int.reduceNe]
theorem cMade1 (r : List Int) (b : Bool) (i : Nat) (n : Int) (y : BdLot) (hi : r[i]? = some n) (hn : 0 ≤ n ∧ n ≤ 20) (hm : 0 ≤ y.shrink ∧ y.shrink ≤ 2000) : PCall Try.prog 69 [.int .i64 i, y.pv, .ptr 1 [.slice 1 (r.map intPV) b] 0 0] (.int .i64 (n * y.shrink)) := by
  refine pcall_of_wp draws (fn := Try.f69) (n := 13) (rs := [.tmp 5]) (by kernel_rfl) rfl rfl rfl ok69 (Nat.le_of_ble_eq_true rfl) ?_
  have hlt : ((i : Nat) : Int) < (r.length : Int) := by have := (List.getElem?_eq_some_iff.1 hi).1; omega
  have hb := mul_bd hn.1 hn.2 hm.1 hm.2
  have hw : IntKind.i64.wrap (n * y.shrink) = n * y.shrink := wrap_in (by omega) (by omega)
  simp (config := { maxSteps := 400000 }) only [hlt, hi, hw, go_sem, ↓reduceIte, reduceCtorEq, Nat.reduceEqDiff, Nat.reduceAdd, Nat.reduceLT, Nat.reduceLeDiff, Nat.reduceSub, Int.reduceToNat, Int.reduceLE, Int.reduceLT, Int.reduceNeg, Int.reduceBEq, Int.reduceBNe, Nat.reduceMul, Int.reduceAdd, Int.reduceMul, Int.reduceSub, Int.reduceEq, Int.reduceNe]
set_option maxHeartbeats 1000000 in
theorem cMade (l : List BdWax) (r : List Int) (y : List BdLot) (b b2 : Bool) : PCall Try.prog 22 [bdWaxes l, .slice 1 (r.map intPV) b, .slice 2 (y.map BdLot.pv) b2] (triple (bdMade l r y)) := by
  refine pcall_of_wp draws (fn := Try.f22) (n := 76) (rs := [.tmp 6, .tmp 7, .tmp 8]) (by kernel_rfl) rfl rfl rfl ok22 (Nat.le_of_ble_eq_true rfl) ?_
  simp (config := { maxSteps := 400000 }) only [go_sem, ↓reduceIte, reduceCtorEq, Nat.reduceEqDiff, Nat.reduceAdd, Nat.reduceLT, Nat.reduceLeDiff, Nat.reduceSub, Int.reduceToNat, Int.reduceLE, Int.reduceLT, Int.reduceNeg, Int.reduceBEq, Int.reduceBNe, Nat.reduceMul, Int.reduceAdd, Int.reduceMul, Int.reduceSub, Int.reduceEq, Int.reduceNe]
  (first | refine WF_pure (cAsked l r b) rfl ?_ | refine WDQ_pure (cAsked l r b) rfl ?_)
  simp (config := { maxSteps := 400000 }) only [go_sem, ↓reduceIte, reduceCtorEq, Nat.reduceEqDiff, Nat.reduceAdd, Nat.reduceLT, Nat.reduceLeDiff, Nat.reduceSub, Int.reduceToNat, Int.reduceLE, Int.reduceLT, Int.reduceNeg, Int.reduceBEq, Int.reduceBNe, Nat.reduceMul, Int.reduceAdd, Int.reduceMul, Int.reduceSub, Int.reduceEq, Int.reduceNe]
  refine WB_split (fun he => ?_) (fun he => ?_)
  · have he' : ¬ bdAsked l r = 0 := by simpa using he
    simp (config := { maxSteps := 400000 }) only [triple, bdMade, if_neg he', go_sem, ↓reduceIte, reduceCtorEq, Nat.reduceEqDiff, Nat.reduceAdd, Nat.reduceLT, Nat.reduceLeDiff, Nat.reduceSub, Int.reduceToNat, Int.reduceLE, Int.reduceLT, Int.reduceNeg, Int.reduceBEq, Int.reduceBNe, Nat.reduceMul, Int.reduceAdd, Int.reduceMul, Int.reduceSub, Int.reduceEq, Int.reduceNe]
  have he' : bdAsked l r = 0 := by simpa using he
  obtain ⟨hl, hr⟩ := bdAsked_ok he'
  simp (config := { maxSteps := 400000 }) only [go_sem, ↓reduceIte, reduceCtorEq, Nat.reduceEqDiff, Nat.reduceAdd, Nat.reduceLT, Nat.reduceLeDiff, Nat.reduceSub, Int.reduceToNat, Int.reduceLE, Int.reduceLT, Int.reduceNeg, Int.reduceBEq, Int.reduceBNe, Nat.reduceMul, Int.reduceAdd, Int.reduceMul, Int.reduceSub, Int.reduceEq, Int.reduceNe]
  refine WB_split (fun hb => ?_) (fun hb => ?_)
  · have : ¬ (y.length = l.length) := by simp [bne] at hb; omega
    simp (config := { maxSteps := 400000 }) only [triple, bdMade, if_pos he', if_neg this, go_sem, ↓reduceIte, reduceCtorEq, Nat.reduceEqDiff, Nat.reduceAdd, Nat.reduceLT, Nat.reduceLeDiff, Nat.reduceSub, Int.reduceToNat, Int.reduceLE, Int.reduceLT, Int.reduceNeg, Int.reduceBEq, Int.reduceBNe, Nat.reduceMul, Int.reduceAdd, Int.reduceMul, Int.reduceSub, Int.reduceEq, Int.reduceNe]
  have hlen : y.length = l.length := by simp [bne] at hb; omega
  obtain ⟨z1, z2, z3⟩ := ts_of hr.len hlen
  have hl5 := hl.len
  have hrl := hr.len
  obtain ⟨ts, hts⟩ : ∃ ts, ts = (l.zip r).zip y := ⟨_, rfl⟩
  have htl : ts.length = l.length := by rw [hts]; simp; omega
  have hspec : bdMade l r y = if ts.all lotIn = true then (sumP fRaise (l.zip r) + (ts.map mMelt).sum, (ts.map mShrink).sum, 0) else (0, 0, 7) := by rw [bdMade, if_pos he', if_pos hlen, hts]
  rw [← hts] at z1 z2 z3
  simp (config := { maxSteps := 400000 }) only [go_sem, ↓reduceIte, reduceCtorEq, Nat.reduceEqDiff, Nat.reduceAdd, Nat.reduceLT, Nat.reduceLeDiff, Nat.reduceSub, Int.reduceToNat, Int.reduceLE, Int.reduceLT, Int.reduceNeg, Int.reduceBEq, Int.reduceBNe, Nat.reduceMul, Int.reduceAdd, Int.reduceMul, Int.reduceSub, Int.reduceEq, Int.reduceNe]
  refine W_rangeA [0, 2, 4, 22, 23] ts (by omega) (τ := Unit) (fun done rest _ => ts.all lotIn = rest.all lotIn) (fun done _ => [(24, .p (.int .i64 done.length))]) (fun _ _ => [.row 1 [.p (.slice 1 (r.map intPV) b)]]) () rfl ?_ ?_ ?_
  · simp (config := { maxSteps := 400000 }) only [go_sem, ↓reduceIte, reduceCtorEq, Nat.reduceEqDiff, Nat.reduceAdd, Nat.reduceLT, Nat.reduceLeDiff, Nat.reduceSub, Int.reduceToNat, Int.reduceLE, Int.reduceLT, Int.reduceNeg, Int.reduceBEq, Int.reduceBNe, Nat.reduceMul, Int.reduceAdd, Int.reduceMul, Int.reduceSub, Int.reduceEq, Int.reduceNe] <;> simp
  · intro _ e2
    have g1 : ¬ (ts.length : Int) < (y.length : Int) := by omega
    have e2' : ts.all lotIn = true := by rw [e2]; rfl
    have hok : TsOk ts := by rw [hts]; exact tsOk_of hl hr.rng (hts ▸ e2')
    have hs := ts_sums hok
    have hb := sums_bd (psOk_zip hl hr.rng)
    have gr : ∀ (i : Nat) n, r[i]? = some n → 0 ≤ n ∧ n ≤ 20 := fun i n hi => hr.rng n (List.mem_of_getElem? hi)
    have at3 : ∀ (i : Nat) z, y[i]? = some z → ∃ t, ts[i]? = some t ∧ t.2 = z ∧ r[i]? = some t.1.2 := fun i z hi => by
      have h1 : i < ts.length := by have := (List.getElem?_eq_some_iff.1 hi).1; omega
      refine ⟨_, List.getElem?_eq_getElem h1, ?_, ?_⟩
      · have : y[i]? = some ts[i].2 := by rw [← z3, List.getElem?_map, List.getElem?_eq_getElem h1]; rfl
        rw [hi] at this; exact (Option.some.inj this).symm
      · rw [← z2, List.getElem?_map, List.getElem?_eq_getElem h1]; rfl
    simp (config := { maxSteps := 400000 }) only [g1, go_sem, ↓reduceIte, reduceCtorEq, Nat.reduceEqDiff, Nat.reduceAdd, Nat.reduceLT, Nat.reduceLeDiff, Nat.reduceSub, Int.reduceToNat, Int.reduceLE, Int.reduceLT, Int.reduceNeg, Int.reduceBEq, Int.reduceBNe, Nat.reduceMul, Int.reduceAdd, Int.reduceMul, Int.reduceSub, Int.reduceEq, Int.reduceNe]
    (first | refine WF_pure (cBlendZ false b hl hr.len) rfl ?_ | refine WDQ_pure (cBlendZ false b hl hr.len) rfl ?_)
    simp (config := { maxSteps := 400000 }) only [go_sem, ↓reduceIte, reduceCtorEq, Nat.reduceEqDiff, Nat.reduceAdd, Nat.reduceLT, Nat.reduceLeDiff, Nat.reduceSub, Int.reduceToNat, Int.reduceLE, Int.reduceLT, Int.reduceNeg, Int.reduceBEq, Int.reduceBNe, Nat.reduceMul, Int.reduceAdd, Int.reduceMul, Int.reduceSub, Int.reduceEq, Int.reduceNe]
    (first | refine WF_pure (cWhole_raise (l.zip r) false (psOk_zip hl hr.rng)) rfl ?_ | refine WDQ_pure (cWhole_raise (l.zip r) false (psOk_zip hl hr.rng)) rfl ?_)
    simp (config := { maxSteps := 400000 }) only [go_sem, ↓reduceIte, reduceCtorEq, Nat.reduceEqDiff, Nat.reduceAdd, Nat.reduceLT, Nat.reduceLeDiff, Nat.reduceSub, Int.reduceToNat, Int.reduceLE, Int.reduceLT, Int.reduceNeg, Int.reduceBEq, Int.reduceBNe, Nat.reduceMul, Int.reduceAdd, Int.reduceMul, Int.reduceSub, Int.reduceEq, Int.reduceNe]
    refine WF_frz (cBdSum2 (fv := .func (.func 68) [] [.ptr 1 [.slice 1 (r.map intPV) b] 0 0]) y (fun i z => (r[i]?).getD 0 * z.melt) b2 2 rfl (by omega) fun i z hi => ?_) ?_ (.int _ _) ?_
    · obtain ⟨t, h1, rfl, h2⟩ := at3 i z hi
      have h3 := ts_bd (hok.rng t (List.mem_of_getElem? h1))
      have h4 := hok.rng t (List.mem_of_getElem? h1)
      rw [h2]
      unfold mMelt at h3
      exact ⟨⟨_, _, _, rfl, cMade0 r b i t.1.2 t.2 h2 h4.1 (by omega)⟩, by simp only [Option.getD_some]; omega, by simp only [Option.getD_some]; omega⟩
    · simp (config := { maxSteps := 400000 }) only [go_sem, ↓reduceIte, reduceCtorEq, Nat.reduceEqDiff, Nat.reduceAdd, Nat.reduceLT, Nat.reduceLeDiff, Nat.reduceSub, Int.reduceToNat, Int.reduceLE, Int.reduceLT, Int.reduceNeg, Int.reduceBEq, Int.reduceBNe, Nat.reduceMul, Int.reduceAdd, Int.reduceMul, Int.reduceSub, Int.reduceEq, Int.reduceNe]
    have e3 : sumI (fun i z => (r[i]?).getD 0 * z.melt) y 0 = (ts.map mMelt).sum := by
      rw [← z3]
      exact sumI_ts (fun z => z.melt) _ fun i t hi => by
        have : r[i]? = some t.1.2 := by rw [← z2, List.getElem?_map, hi]; rfl
        rw [this]; rfl
    have w1 : IntKind.i64.wrap (sumP fRaise (l.zip r) + (ts.map mMelt).sum) = sumP fRaise (l.zip r) + (ts.map mMelt).sum := wrap_in (by omega) (by omega)
    simp (config := { maxSteps := 400000 }) only [e3, w1, go_sem, ↓reduceIte, reduceCtorEq, Nat.reduceEqDiff, Nat.reduceAdd, Nat.reduceLT, Nat.reduceLeDiff, Nat.reduceSub, Int.reduceToNat, Int.reduceLE, Int.reduceLT, Int.reduceNeg, Int.reduceBEq, Int.reduceBNe, Nat.reduceMul, Int.reduceAdd, Int.reduceMul, Int.reduceSub, Int.reduceEq, Int.reduceNe]
    refine WF_frz (cBdSum2 (fv := .func (.func 69) [] [.ptr 1 [.slice 1 (r.map intPV) b] 0 0]) y (fun i z => (r[i]?).getD 0 * z.shrink) b2 2 rfl (by omega) fun i z hi => ?_) ?_ (.int _ _) ?_
    · obtain ⟨t, h1, rfl, h2⟩ := at3 i z hi
      have h3 := ts_bd (hok.rng t (List.mem_of_getElem? h1))
      have h4 := hok.rng t (List.mem_of_getElem? h1)
      rw [h2]
      unfold mShrink at h3
      exact ⟨⟨_, _, _, rfl, cMade1 r b i t.1.2 t.2 h2 h4.1 (by omega)⟩, by simp only [Option.getD_some]; omega, by simp only [Option.getD_some]; omega⟩
    · simp (config := { maxSteps := 400000 }) only [go_sem, ↓reduceIte, reduceCtorEq, Nat.reduceEqDiff, Nat.reduceAdd, Nat.reduceLT, Nat.reduceLeDiff, Nat.reduceSub, Int.reduceToNat, Int.reduceLE, Int.reduceLT, Int.reduceNeg, Int.reduceBEq, Int.reduceBNe, Nat.reduceMul, Int.reduceAdd, Int.reduceMul, Int.reduceSub, Int.reduceEq, Int.reduceNe]
    have e4 : sumI (fun i z => (r[i]?).getD 0 * z.shrink) y 0 = (ts.map mShrink).sum := by
      rw [← z3]
      exact sumI_ts (fun z => z.shrink) _ fun i t hi => by
        have : r[i]? = some t.1.2 := by rw [← z2, List.getElem?_map, hi]; rfl
        rw [this]; rfl
    rw [if_pos e2'] at hspec
    simp (config := { maxSteps := 400000 }) only [e4, triple, hspec, go_sem, ↓reduceIte, reduceCtorEq, Nat.reduceEqDiff, Nat.reduceAdd, Nat.reduceLT, Nat.reduceLeDiff, Nat.reduceSub, Int.reduceToNat, Int.reduceLE, Int.reduceLT, Int.reduceNeg, Int.reduceBEq, Int.reduceBNe, Nat.reduceMul, Int.reduceAdd, Int.reduceMul, Int.reduceSub, Int.reduceEq, Int.reduceNe]
  · intro done t rest _ e1 e2 hx hlt hnx
    have g1 : (done.length : Int) < (y.length : Int) := by omega
    have g2 : (done.length : Int) < (l.length : Int) := by omega
    have x1 : l[done.length]? = some t.1.1 := by rw [← z1, List.getElem?_map, hx]; rfl
    have x3 : y[done.length]? = some t.2 := by rw [← z3, List.getElem?_map, hx]; rfl
    simp (config := { maxSteps := 400000 }) only [g1, g2, x1, x3, go_sem, ↓reduceIte, reduceCtorEq, Nat.reduceEqDiff, Nat.reduceAdd, Nat.reduceLT, Nat.reduceLeDiff, Nat.reduceSub, Int.reduceToNat, Int.reduceLE, Int.reduceLT, Int.reduceNeg, Int.reduceBEq, Int.reduceBNe, Nat.reduceMul, Int.reduceAdd, Int.reduceMul, Int.reduceSub, Int.reduceEq, Int.reduceNe]
    (first | refine WF_pure (cBdOut _ _ [_] true (by simp)) rfl ?_ | refine WDQ_pure (cBdOut _ _ [_] true (by simp)) rfl ?_)
    simp (config := { maxSteps := 400000 }) only [List.any_cons, List.any_nil, Bool.or_false, go_sem, ↓reduceIte, reduceCtorEq, Nat.reduceEqDiff, Nat.reduceAdd, Nat.reduceLT, Nat.reduceLeDiff, Nat.reduceSub, Int.reduceToNat, Int.reduceLE, Int.reduceLT, Int.reduceNeg, Int.reduceBEq, Int.reduceBNe, Nat.reduceMul, Int.reduceAdd, Int.reduceMul, Int.reduceSub, Int.reduceEq, Int.reduceNe]
    cases h1 : gIn t.2.melt t.1.1.melt.lo t.1.1.melt.hi
    · have : ¬ ts.all lotIn = true := by rw [e2]; simp [lotIn, h1]
      rw [if_neg this] at hspec
      simp (config := { maxSteps := 400000 }) only [triple, hspec, go_sem, ↓reduceIte, reduceCtorEq, Nat.reduceEqDiff, Nat.reduceAdd, Nat.reduceLT, Nat.reduceLeDiff, Nat.reduceSub, Int.reduceToNat, Int.reduceLE, Int.reduceLT, Int.reduceNeg, Int.reduceBEq, Int.reduceBNe, Nat.reduceMul, Int.reduceAdd, Int.reduceMul, Int.reduceSub, Int.reduceEq, Int.reduceNe]
    simp (config := { maxSteps := 400000 }) only [g1, g2, x1, x3, go_sem, ↓reduceIte, reduceCtorEq, Nat.reduceEqDiff, Nat.reduceAdd, Nat.reduceLT, Nat.reduceLeDiff, Nat.reduceSub, Int.reduceToNat, Int.reduceLE, Int.reduceLT, Int.reduceNeg, Int.reduceBEq, Int.reduceBNe, Nat.reduceMul, Int.reduceAdd, Int.reduceMul, Int.reduceSub, Int.reduceEq, Int.reduceNe]
    (first | refine WF_pure (cBdOut _ _ [_] true (by simp)) rfl ?_ | refine WDQ_pure (cBdOut _ _ [_] true (by simp)) rfl ?_)
    simp (config := { maxSteps := 400000 }) only [List.any_cons, List.any_nil, Bool.or_false, go_sem, ↓reduceIte, reduceCtorEq, Nat.reduceEqDiff, Nat.reduceAdd, Nat.reduceLT, Nat.reduceLeDiff, Nat.reduceSub, Int.reduceToNat, Int.reduceLE, Int.reduceLT, Int.reduceNeg, Int.reduceBEq, Int.reduceBNe, Nat.reduceMul, Int.reduceAdd, Int.reduceMul, Int.reduceSub, Int.reduceEq, Int.reduceNe]
    cases h2 : gIn t.2.shrink t.1.1.shrink.lo t.1.1.shrink.hi
    · have : ¬ ts.all lotIn = true := by rw [e2]; simp [lotIn, h1, h2]
      rw [if_neg this] at hspec
      simp (config := { maxSteps := 400000 }) only [triple, hspec, go_sem, ↓reduceIte, reduceCtorEq, Nat.reduceEqDiff, Nat.reduceAdd, Nat.reduceLT, Nat.reduceLeDiff, Nat.reduceSub, Int.reduceToNat, Int.reduceLE, Int.reduceLT, Int.reduceNeg, Int.reduceBEq, Int.reduceBNe, Nat.reduceMul, Int.reduceAdd, Int.reduceMul, Int.reduceSub, Int.reduceEq, Int.reduceNe]
    simp (config := { maxSteps := 400000 }) only [go_sem, ↓reduceIte, reduceCtorEq, Nat.reduceEqDiff, Nat.reduceAdd, Nat.reduceLT, Nat.reduceLeDiff, Nat.reduceSub, Int.reduceToNat, Int.reduceLE, Int.reduceLT, Int.reduceNeg, Int.reduceBEq, Int.reduceBNe, Nat.reduceMul, Int.reduceAdd, Int.reduceMul, Int.reduceSub, Int.reduceEq, Int.reduceNe]
    refine WQ_next e1 () (by rw [e2, List.all_cons, lotIn, h1, h2]; rfl) ?_
    simp (config := { maxSteps := 400000 }) only [hnx, go_sem, ↓reduceIte, reduceCtorEq, Nat.reduceEqDiff, Nat.reduceAdd, Nat.reduceLT, Nat.reduceLeDiff, Nat.reduceSub, Int.reduceToNat, Int.reduceLE, Int.reduceLT, Int.reduceNeg, Int.reduceBEq, Int.reduceBNe, Nat.reduceMul, Int.reduceAdd, Int.reduceMul, Int.reduceSub, Int.reduceEq, Int.reduceNe]
set_option maxHeartbeats 1000000 in
theorem cRefMade (l : List BdWax) (r : List Int) (y : List BdLot) (b b2 : Bool) : PCall Try.prog 23 [bdWaxes l, .slice 1 (r.map intPV) b, .slice 2 (y.map BdLot.pv) b2] (triple (bdMade l r y)) := by
  refine pcall_of_wp draws (fn := Try.f23) (n := 114) (rs := [.tmp 6, .tmp 7, .tmp 8]) (by kernel_rfl) rfl rfl rfl ok23 (Nat.le_of_ble_eq_true rfl) ?_
  simp (config := { maxSteps := 400000 }) only [go_sem, ↓reduceIte, reduceCtorEq, Nat.reduceEqDiff, Nat.reduceAdd, Nat.reduceLT, Nat.reduceLeDiff, Nat.reduceSub, Int.reduceToNat, Int.reduceLE, Int.reduceLT, Int.reduceNeg, Int.reduceBEq, Int.reduceBNe, Nat.reduceMul, Int.reduceAdd, Int.reduceMul, Int.reduceSub, Int.reduceEq, Int.reduceNe]
  (first | refine WF_pure (cRefBdAsked l r b) rfl ?_ | refine WDQ_pure (cRefBdAsked l r b) rfl ?_)
  simp (config := { maxSteps := 400000 }) only [go_sem, ↓reduceIte, reduceCtorEq, Nat.reduceEqDiff, Nat.reduceAdd, Nat.reduceLT, Nat.reduceLeDiff, Nat.reduceSub, Int.reduceToNat, Int.reduceLE, Int.reduceLT, Int.reduceNeg, Int.reduceBEq, Int.reduceBNe, Nat.reduceMul, Int.reduceAdd, Int.reduceMul, Int.reduceSub, Int.reduceEq, Int.reduceNe]
  -- with an error the first loop is not entered
  cases he : (bdAsked l r == 0)
  · have he' : ¬ bdAsked l r = 0 := by simpa using he
    have hen : (bdAsked l r != 0) = true := by simp [bne, he]
    simp (config := { maxSteps := 400000 }) only [go_sem, ↓reduceIte, reduceCtorEq, Nat.reduceEqDiff, Nat.reduceAdd, Nat.reduceLT, Nat.reduceLeDiff, Nat.reduceSub, Int.reduceToNat, Int.reduceLE, Int.reduceLT, Int.reduceNeg, Int.reduceBEq, Int.reduceBNe, Nat.reduceMul, Int.reduceAdd, Int.reduceMul, Int.reduceSub, Int.reduceEq, Int.reduceNe]
    refine W_unroll ?_
    simp (config := { maxSteps := 400000 }) only [go_sem, ↓reduceIte, reduceCtorEq, Nat.reduceEqDiff, Nat.reduceAdd, Nat.reduceLT, Nat.reduceLeDiff, Nat.reduceSub, Int.reduceToNat, Int.reduceLE, Int.reduceLT, Int.reduceNeg, Int.reduceBEq, Int.reduceBNe, Nat.reduceMul, Int.reduceAdd, Int.reduceMul, Int.reduceSub, Int.reduceEq, Int.reduceNe]
    cases hz : decide ((0 : Int) < (y.length : Int)) <;> simp (config := { maxSteps := 400000 }) only [he, hen, hz, triple, bdMade, if_neg he', go_sem, ↓reduceIte, reduceCtorEq, Nat.reduceEqDiff, Nat.reduceAdd, Nat.reduceLT, Nat.reduceLeDiff, Nat.reduceSub, Int.reduceToNat, Int.reduceLE, Int.reduceLT, Int.reduceNeg, Int.reduceBEq, Int.reduceBNe, Nat.reduceMul, Int.reduceAdd, Int.reduceMul, Int.reduceSub, Int.reduceEq, Int.reduceNe]
  have he' : bdAsked l r = 0 := by simpa using he
  obtain ⟨hl, hr⟩ := bdAsked_ok he'
  simp (config := { maxSteps := 400000 }) only [go_sem, ↓reduceIte, reduceCtorEq, Nat.reduceEqDiff, Nat.reduceAdd, Nat.reduceLT, Nat.reduceLeDiff, Nat.reduceSub, Int.reduceToNat, Int.reduceLE, Int.reduceLT, Int.reduceNeg, Int.reduceBEq, Int.reduceBNe, Nat.reduceMul, Int.reduceAdd, Int.reduceMul, Int.reduceSub, Int.reduceEq, Int.reduceNe]
  cases hb : ((y.length : Int) != (l.length : Int))
  rotate_left
  · have : ¬ (y.length = l.length) := by simp [bne] at hb; omega
    simp (config := { maxSteps := 400000 }) only [go_sem, ↓reduceIte, reduceCtorEq, Nat.reduceEqDiff, Nat.reduceAdd, Nat.reduceLT, Nat.reduceLeDiff, Nat.reduceSub, Int.reduceToNat, Int.reduceLE, Int.reduceLT, Int.reduceNeg, Int.reduceBEq, Int.reduceBNe, Nat.reduceMul, Int.reduceAdd, Int.reduceMul, Int.reduceSub, Int.reduceEq, Int.reduceNe]
    refine W_unroll ?_
    simp (config := { maxSteps := 400000 }) only [go_sem, ↓reduceIte, reduceCtorEq, Nat.reduceEqDiff, Nat.reduceAdd, Nat.reduceLT, Nat.reduceLeDiff, Nat.reduceSub, Int.reduceToNat, Int.reduceLE, Int.reduceLT, Int.reduceNeg, Int.reduceBEq, Int.reduceBNe, Nat.reduceMul, Int.reduceAdd, Int.reduceMul, Int.reduceSub, Int.reduceEq, Int.reduceNe]
    cases hz : decide ((0 : Int) < (y.length : Int)) <;> simp (config := { maxSteps := 400000 }) only [hz, triple, bdMade, if_pos he', if_neg this, go_sem, ↓reduceIte, reduceCtorEq, Nat.reduceEqDiff, Nat.reduceAdd, Nat.reduceLT, Nat.reduceLeDiff, Nat.reduceSub, Int.reduceToNat, Int.reduceLE, Int.reduceLT, Int.reduceNeg, Int.reduceBEq, Int.reduceBNe, Nat.reduceMul, Int.reduceAdd, Int.reduceMul, Int.reduceSub, Int.reduceEq, Int.reduceNe]
  have hlen : y.length = l.length := by simp [bne] at hb; omega
  have hen : (bdAsked l r != 0) = false := by simp [bne, he]
  obtain ⟨z1, z2, z3⟩ := ts_of hr.len hlen
  have hl5 := hl.len
  have hrl := hr.len
  obtain ⟨ts, hts⟩ : ∃ ts, ts = (l.zip r).zip y := ⟨_, rfl⟩
  have htl : ts.length = l.length := by rw [hts]; simp; omega
  have hspec : bdMade l r y = if ts.all lotIn = true then (sumP fRaise (l.zip r) + (ts.map mMelt).sum, (ts.map mShrink).sum, 0) else (0, 0, 7) := by rw [bdMade, if_pos he', if_pos hlen, hts]
  rw [← hts] at z1 z2 z3
  simp (config := { maxSteps := 400000 }) only [go_sem, ↓reduceIte, reduceCtorEq, Nat.reduceEqDiff, Nat.reduceAdd, Nat.reduceLT, Nat.reduceLeDiff, Nat.reduceSub, Int.reduceToNat, Int.reduceLE, Int.reduceLT, Int.reduceNeg, Int.reduceBEq, Int.reduceBNe, Nat.reduceMul, Int.reduceAdd, Int.reduceMul, Int.reduceSub, Int.reduceEq, Int.reduceNe]
  refine W_rangeH [0, 1, 2] ts (by omega) (τ := Bool) (fun done rest f => (f = true → ts.all lotIn = false) ∧ (f = false → ts.all lotIn = rest.all lotIn)) (fun done f => [(10, .p (.int .i64 done.length)), (9, .p (.int .i64 (if f = true then 7 else 0)))]) false ⟨by simp, by simp⟩ ?_ ?_ ?_
  · simp (config := { maxSteps := 400000 }) only [he', go_sem, ↓reduceIte, reduceCtorEq, Nat.reduceEqDiff, Nat.reduceAdd, Nat.reduceLT, Nat.reduceLeDiff, Nat.reduceSub, Int.reduceToNat, Int.reduceLE, Int.reduceLT, Int.reduceNeg, Int.reduceBEq, Int.reduceBNe, Nat.reduceMul, Int.reduceAdd, Int.reduceMul, Int.reduceSub, Int.reduceEq, Int.reduceNe] <;> simp
  · rintro f ⟨e2, e3⟩
    have g1 : ¬ (ts.length : Int) < (y.length : Int) := by omega
    cases f
    rotate_left
    · rw [e2 rfl] at hspec
      simp (config := { maxSteps := 400000 }) only [g1, triple, hspec, go_sem, ↓reduceIte, reduceCtorEq, Nat.reduceEqDiff, Nat.reduceAdd, Nat.reduceLT, Nat.reduceLeDiff, Nat.reduceSub, Int.reduceToNat, Int.reduceLE, Int.reduceLT, Int.reduceNeg, Int.reduceBEq, Int.reduceBNe, Nat.reduceMul, Int.reduceAdd, Int.reduceMul, Int.reduceSub, Int.reduceEq, Int.reduceNe]
    have e2' : ts.all lotIn = true := by rw [e3 rfl]; rfl
    rw [if_pos e2'] at hspec
    have hok : TsOk ts := by rw [hts]; exact tsOk_of hl hr.rng (hts ▸ e2')
    have hs := ts_sums hok
    have hsb := sums_bd (psOk_zip hl hr.rng)
    simp (config := { maxSteps := 400000 }) only [g1, go_sem, ↓reduceIte, reduceCtorEq, Nat.reduceEqDiff, Nat.reduceAdd, Nat.reduceLT, Nat.reduceLeDiff, Nat.reduceSub, Int.reduceToNat, Int.reduceLE, Int.reduceLT, Int.reduceNeg, Int.reduceBEq, Int.reduceBNe, Nat.reduceMul, Int.reduceAdd, Int.reduceMul, Int.reduceSub, Int.reduceEq, Int.reduceNe]
    (first | refine WF_pure (cRefRaisedZ false b hl hr.len hr.rng) rfl ?_ | refine WDQ_pure (cRefRaisedZ false b hl hr.len hr.rng) rfl ?_)
    simp (config := { maxSteps := 400000 }) only [go_sem, ↓reduceIte, reduceCtorEq, Nat.reduceEqDiff, Nat.reduceAdd, Nat.reduceLT, Nat.reduceLeDiff, Nat.reduceSub, Int.reduceToNat, Int.reduceLE, Int.reduceLT, Int.reduceNeg, Int.reduceBEq, Int.reduceBNe, Nat.reduceMul, Int.reduceAdd, Int.reduceMul, Int.reduceSub, Int.reduceEq, Int.reduceNe]
    refine W_rangeH [0, 1, 2] ts (by omega) (τ := Int × Int) (fun done rest q => (sumP fRaise (l.zip r) + (ts.map mMelt).sum = q.1 + (rest.map mMelt).sum ∧ (ts.map mShrink).sum = q.2 + (rest.map mShrink).sum) ∧
        (-30000 ≤ q.1 ∧ q.1 ≤ 30000 + 40000 * (done.length : Int)) ∧ (0 ≤ q.2 ∧ q.2 ≤ 20000 * (done.length : Int)))
      (fun done q => [(13, .p (.int .i64 done.length)), (11, .p (.int .i64 q.1)), (12, .p (.int .i64 q.2))]) (sumP fRaise (l.zip r), 0) ⟨⟨rfl, by simp⟩, by simp; omega, by simp⟩ ?_ ?_ ?_
    · simp (config := { maxSteps := 400000 }) only [go_sem, ↓reduceIte, reduceCtorEq, Nat.reduceEqDiff, Nat.reduceAdd, Nat.reduceLT, Nat.reduceLeDiff, Nat.reduceSub, Int.reduceToNat, Int.reduceLE, Int.reduceLT, Int.reduceNeg, Int.reduceBEq, Int.reduceBNe, Nat.reduceMul, Int.reduceAdd, Int.reduceMul, Int.reduceSub, Int.reduceEq, Int.reduceNe] <;> simp
    · rintro ⟨c, d⟩ ⟨⟨h1, h2⟩, _⟩
      have g2 : ¬ (ts.length : Int) < (l.length : Int) := by omega
      simp only [List.map_nil, List.sum_nil, Int.add_zero] at h1 h2
      simp (config := { maxSteps := 400000 }) only [g2, triple, hspec, h1, h2, go_sem, ↓reduceIte, reduceCtorEq, Nat.reduceEqDiff, Nat.reduceAdd, Nat.reduceLT, Nat.reduceLeDiff, Nat.reduceSub, Int.reduceToNat, Int.reduceLE, Int.reduceLT, Int.reduceNeg, Int.reduceBEq, Int.reduceBNe, Nat.reduceMul, Int.reduceAdd, Int.reduceMul, Int.reduceSub, Int.reduceEq, Int.reduceNe]
    · rintro done t rest ⟨c, d⟩ e1 ⟨⟨h1, h2⟩, h3, h4⟩ hx hlt hnx
      dsimp only at h1 h2 h3 h4
      have g2 : (done.length : Int) < (l.length : Int) := by omega
      have g3 : (done.length : Int) < (r.length : Int) := by omega
      have g4 : (done.length : Int) < (y.length : Int) := by omega
      have x2 : r[done.length]? = some t.1.2 := by rw [← z2, List.getElem?_map, hx]; rfl
      have x3 : y[done.length]? = some t.2 := by rw [← z3, List.getElem?_map, hx]; rfl
      have hb := ts_bd (hok.rng t (by rw [e1]; simp))
      have w1 : IntKind.i64.wrap (mMelt t) = mMelt t := wrap_in (by omega) (by omega)
      have w2 : IntKind.i64.wrap (mShrink t) = mShrink t := wrap_in (by omega) (by omega)
      have v1 : IntKind.i64.wrap (c + mMelt t) = c + mMelt t := wrap_in (by omega) (by omega)
      have v2 : IntKind.i64.wrap (d + mShrink t) = d + mShrink t := wrap_in (by omega) (by omega)
      rw [List.map_cons, List.sum_cons] at h1 h2
      have nx : (sumP fRaise (l.zip r) + (ts.map mMelt).sum = (c + mMelt t, d + mShrink t).1 + (rest.map mMelt).sum ∧ (ts.map mShrink).sum = (c + mMelt t, d + mShrink t).2 + (rest.map mShrink).sum) ∧
        (-30000 ≤ (c + mMelt t, d + mShrink t).1 ∧ (c + mMelt t, d + mShrink t).1 ≤ 30000 + 40000 * ((done ++ [t]).length : Int)) ∧ (0 ≤ (c + mMelt t, d + mShrink t).2 ∧ (c + mMelt t, d + mShrink t).2 ≤ 20000 * ((done ++ [t]).length : Int)) := by
        dsimp only
        refine ⟨⟨by omega, by omega⟩, by simp; omega, by simp; omega⟩
      unfold mMelt at w1 v1
      unfold mShrink at w2 v2
      simp (config := { maxSteps := 400000 }) only [g2, g3, g4, x2, x3, w1, w2, v1, v2, go_sem, ↓reduceIte, reduceCtorEq, Nat.reduceEqDiff, Nat.reduceAdd, Nat.reduceLT, Nat.reduceLeDiff, Nat.reduceSub, Int.reduceToNat, Int.reduceLE, Int.reduceLT, Int.reduceNeg, Int.reduceBEq, Int.reduceBNe, Nat.reduceMul, Int.reduceAdd, Int.reduceMul, Int.reduceSub, Int.reduceEq, Int.reduceNe]
      refine WQ_next e1 (c + mMelt t, d + mShrink t) nx ?_
      simp (config := { maxSteps := 400000 }) only [hnx, mMelt, mShrink, go_sem, ↓reduceIte, reduceCtorEq, Nat.reduceEqDiff, Nat.reduceAdd, Nat.reduceLT, Nat.reduceLeDiff, Nat.reduceSub, Int.reduceToNat, Int.reduceLE, Int.reduceLT, Int.reduceNeg, Int.reduceBEq, Int.reduceBNe, Nat.reduceMul, Int.reduceAdd, Int.reduceMul, Int.reduceSub, Int.reduceEq, Int.reduceNe]
  · rintro done t rest f e1 ⟨e2, e3⟩ hx hlt hnx
    have g1 : (done.length : Int) < (y.length : Int) := by omega
    have g2 : (done.length : Int) < (l.length : Int) := by omega
    have x1 : l[done.length]? = some t.1.1 := by rw [← z1, List.getElem?_map, hx]; rfl
    have x3 : y[done.length]? = some t.2 := by rw [← z3, List.getElem?_map, hx]; rfl
    cases f
    rotate_left
    · rw [e2 rfl] at hspec
      simp (config := { maxSteps := 400000 }) only [g1, triple, hspec, go_sem, ↓reduceIte, reduceCtorEq, Nat.reduceEqDiff, Nat.reduceAdd, Nat.reduceLT, Nat.reduceLeDiff, Nat.reduceSub, Int.reduceToNat, Int.reduceLE, Int.reduceLT, Int.reduceNeg, Int.reduceBEq, Int.reduceBNe, Nat.reduceMul, Int.reduceAdd, Int.reduceMul, Int.reduceSub, Int.reduceEq, Int.reduceNe]
    have e3' := e3 rfl
    simp (config := { maxSteps := 400000 }) only [g1, g2, x1, x3, go_sem, ↓reduceIte, reduceCtorEq, Nat.reduceEqDiff, Nat.reduceAdd, Nat.reduceLT, Nat.reduceLeDiff, Nat.reduceSub, Int.reduceToNat, Int.reduceLE, Int.reduceLT, Int.reduceNeg, Int.reduceBEq, Int.reduceBNe, Nat.reduceMul, Int.reduceAdd, Int.reduceMul, Int.reduceSub, Int.reduceEq, Int.reduceNe]
    (first | refine WF_pure (cIn1 _ _ _) rfl ?_ | refine WDQ_pure (cIn1 _ _ _) rfl ?_)
    simp (config := { maxSteps := 400000 }) only [go_sem, ↓reduceIte, reduceCtorEq, Nat.reduceEqDiff, Nat.reduceAdd, Nat.reduceLT, Nat.reduceLeDiff, Nat.reduceSub, Int.reduceToNat, Int.reduceLE, Int.reduceLT, Int.reduceNeg, Int.reduceBEq, Int.reduceBNe, Nat.reduceMul, Int.reduceAdd, Int.reduceMul, Int.reduceSub, Int.reduceEq, Int.reduceNe]
    cases h1 : gIn t.2.melt t.1.1.melt.lo t.1.1.melt.hi
    · simp (config := { maxSteps := 400000 }) only [go_sem, ↓reduceIte, reduceCtorEq, Nat.reduceEqDiff, Nat.reduceAdd, Nat.reduceLT, Nat.reduceLeDiff, Nat.reduceSub, Int.reduceToNat, Int.reduceLE, Int.reduceLT, Int.reduceNeg, Int.reduceBEq, Int.reduceBNe, Nat.reduceMul, Int.reduceAdd, Int.reduceMul, Int.reduceSub, Int.reduceEq, Int.reduceNe]
      refine WQ_next e1 true ⟨fun _ => by rw [e3', List.all_cons, lotIn, h1]; rfl, by simp⟩ ?_
      simp (config := { maxSteps := 400000 }) only [hnx, go_sem, ↓reduceIte, reduceCtorEq, Nat.reduceEqDiff, Nat.reduceAdd, Nat.reduceLT, Nat.reduceLeDiff, Nat.reduceSub, Int.reduceToNat, Int.reduceLE, Int.reduceLT, Int.reduceNeg, Int.reduceBEq, Int.reduceBNe, Nat.reduceMul, Int.reduceAdd, Int.reduceMul, Int.reduceSub, Int.reduceEq, Int.reduceNe]
    simp (config := { maxSteps := 400000 }) only [g1, g2, x1, x3, go_sem, ↓reduceIte, reduceCtorEq, Nat.reduceEqDiff, Nat.reduceAdd, Nat.reduceLT, Nat.reduceLeDiff, Nat.reduceSub, Int.reduceToNat, Int.reduceLE, Int.reduceLT, Int.reduceNeg, Int.reduceBEq, Int.reduceBNe, Nat.reduceMul, Int.reduceAdd, Int.reduceMul, Int.reduceSub, Int.reduceEq, Int.reduceNe]
    (first | refine WF_pure (cIn1 _ _ _) rfl ?_ | refine WDQ_pure (cIn1 _ _ _) rfl ?_)
    simp (config := { maxSteps := 400000 }) only [go_sem, ↓reduceIte, reduceCtorEq, Nat.reduceEqDiff, Nat.reduceAdd, Nat.reduceLT, Nat.reduceLeDiff, Nat.reduceSub, Int.reduceToNat, Int.reduceLE, Int.reduceLT, Int.reduceNeg, Int.reduceBEq, Int.reduceBNe, Nat.reduceMul, Int.reduceAdd, Int.reduceMul, Int.reduceSub, Int.reduceEq, Int.reduceNe]
    cases h2 : gIn t.2.shrink t.1.1.shrink.lo t.1.1.shrink.hi
    · simp (config := { maxSteps := 400000 }) only [go_sem, ↓reduceIte, reduceCtorEq, Nat.reduceEqDiff, Nat.reduceAdd, Nat.reduceLT, Nat.reduceLeDiff, Nat.reduceSub, Int.reduceToNat, Int.reduceLE, Int.reduceLT, Int.reduceNeg, Int.reduceBEq, Int.reduceBNe, Nat.reduceMul, Int.reduceAdd, Int.reduceMul, Int.reduceSub, Int.reduceEq, Int.reduceNe]
      refine WQ_next e1 true ⟨fun _ => by rw [e3', List.all_cons, lotIn, h1, h2]; rfl, by simp⟩ ?_
      simp (config := { maxSteps := 400000 }) only [hnx, go_sem, ↓reduceIte, reduceCtorEq, Nat.reduceEqDiff, Nat.reduceAdd, Nat.reduceLT, Nat.reduceLeDiff, Nat.reduceSub, Int.reduceToNat, Int.reduceLE, Int.reduceLT, Int.reduceNeg, Int.reduceBEq, Int.reduceBNe, Nat.reduceMul, Int.reduceAdd, Int.reduceMul, Int.reduceSub, Int.reduceEq, Int.reduceNe]
    simp (config := { maxSteps := 400000 }) only [go_sem, ↓reduceIte, reduceCtorEq, Nat.reduceEqDiff, Nat.reduceAdd, Nat.reduceLT, Nat.reduceLeDiff, Nat.reduceSub, Int.reduceToNat, Int.reduceLE, Int.reduceLT, Int.reduceNeg, Int.reduceBEq, Int.reduceBNe, Nat.reduceMul, Int.reduceAdd, Int.reduceMul, Int.reduceSub, Int.reduceEq, Int.reduceNe]
    refine WQ_next e1 false ⟨by simp, fun _ => by rw [e3', List.all_cons, lotIn, h1, h2]; rfl⟩ ?_
    simp (config := { maxSteps := 400000 }) only [hnx, go_sem, ↓reduceIte, reduceCtorEq, Nat.reduceEqDiff, Nat.reduceAdd, Nat.reduceLT, Nat.reduceLeDiff, Nat.reduceSub, Int.reduceToNat, Int.reduceLE, Int.reduceLT, Int.reduceNeg, Int.reduceBEq, Int.reduceBNe, Nat.reduceMul, Int.reduceAdd, Int.reduceMul, Int.reduceSub, Int.reduceEq, Int.reduceNe]
end Abs
end Go.Proofs.Ythekmbikolpmlaa
