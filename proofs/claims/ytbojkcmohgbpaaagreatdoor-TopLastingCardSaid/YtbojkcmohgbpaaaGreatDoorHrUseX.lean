/-
  CONTRACTS: what follows from the rates of a kind: minutes, a promise, rules, boxes. No conditions but those in the theorems' heads.
  CONTRACTS: boxes whose promise can be broken. No conditions but those in the theorems' heads.
-/
import Derived.Test.YtbojkcmohgbpaaaGreatDoorStrBldX
namespace Go.Proofs.YtbojkcmohgbpaaaGreatDoor
namespace Abs
set_option linter.unusedSimpArgs false
set_option linter.unusedVariables false
set_option maxRecDepth 4000
structure HrKOk (x : HrK) : Prop where
  k : HrKindOk x.k
  lo : 0 ≤ x.rates.lo
  le : x.rates.lo ≤ x.rates.hi
  pos : 1 ≤ x.rates.hi
  hi : x.rates.hi ≤ 901800000
def RatesO (r : Span) : Prop := (r = ⟨-1, 0⟩) ∨ (0 ≤ r.lo ∧ r.lo ≤ r.hi ∧ r.hi ≤ 601200000)
theorem lookStep_O {r q : Span} (hr : RatesO r) (hq : 0 ≤ q.lo ∧ q.lo ≤ q.hi ∧ q.hi ≤ 601200000) : RatesO (lookStep r q) := by
  unfold lookStep
  rcases hr with rfl | hr
  · rw [if_pos (by decide)]; exact .inr hq
  · rw [if_neg (by omega)]
    refine .inr ⟨?_, ?_, ?_⟩ <;> dsimp only <;> split <;> (try split) <;> omega
theorem lookGo_O {nk at' : Int} : ∀ {l : List HrTest} {r : Span}, testsErr nk l = 0 → RatesO r → RatesO (lookGo at' r l)
  | [], _, _, h => h
  | t :: l, r, h, hr => by
    have h1 := testsErr_all h
    have h2 : testsErr nk l = 0 := by rw [testsErr] at h; split at h <;> (first | exact h | contradiction)
    rw [lookGo]
    refine lookGo_O h2 ?_
    split
    · rename_i hc
      have hok := (testErr_ok (h1 t (by simp))).1
      have := hrRate_le hok
      exact lookStep_O hr ⟨this.1, hrRate_ordered hok hc.2, this.2.2.2⟩
    · exact hr
theorem widen_ok {m : Int} {r : Span} (hm : 0 ≤ m ∧ m ≤ 500) (hr : 0 ≤ r.lo ∧ r.lo ≤ r.hi ∧ r.hi ≤ 601200000) : 0 ≤ (widen m r).lo ∧ (widen m r).lo ≤ (widen m r).hi ∧ (widen m r).hi ≤ 901800000 := by
  have e1 : 0 ≤ (widen m r).lo := by
    refine (Frac.down_le (f := ⟨r.lo * (1000 - m), 1000⟩) (by show (0:Int) < 1000; decide) 0).2 ?_
    have : 0 ≤ r.lo * (1000 - m) := Int.mul_nonneg (by omega) (by omega)
    simpa using this
  have e2 : (widen m r).lo ≤ r.lo := by
    have := (Frac.down_le (f := ⟨r.lo * (1000 - m), 1000⟩) (by show (0:Int) < 1000; decide) (widen m r).lo).1 (Int.le_refl _)
    dsimp only at this
    have h2 : r.lo * (1000 - m) ≤ r.lo * 1000 := Int.mul_le_mul_of_nonneg_left (by omega) (by omega)
    omega
  have e3 : r.hi ≤ (widen m r).hi := by
    have := (Frac.up_le (f := ⟨r.hi * (1000 + m), 1000⟩) (by show (0:Int) < 1000; decide) (widen m r).hi).1 (Int.le_refl _)
    dsimp only at this
    have h2 : r.hi * 1000 ≤ r.hi * (1000 + m) := Int.mul_le_mul_of_nonneg_left (by omega) (by omega)
    omega
  have e4 : (widen m r).hi ≤ 901800000 := by
    refine (Frac.up_le (f := ⟨r.hi * (1000 + m), 1000⟩) (by show (0:Int) < 1000; decide) _).2 ?_
    dsimp only
    have h2 : r.hi * (1000 + m) ≤ r.hi * 1500 := Int.mul_le_mul_of_nonneg_left (by omega) (by omega)
    omega
  omega
theorem hrLook_ok {s : HrShop} {l : List HrTest} {at' : Int} (h : (hrLook s l at').2 = 0) : HrKOk (hrLook s l at').1 ∧ hrTests s l = 0 ∧ gIn at' 0 ((s.kinds.length : Int) - 1) = true ∧
    s.kinds[at'.toNat]? = some (hrLook s l at').1.k ∧ (hrLook s l at').1.rates = widen s.margin (lookRates s l at') ∧ 0 ≤ (lookRates s l at').lo := by
  unfold hrLook at h ⊢
  split at h
  · rename_i h0
    have ht := hrTests_ok h0
    rw [if_pos h0]
    split at h
    · cases h
    · rename_i k hk
      split at h
      · cases h
      · rename_i h1
        split at h
        · cases h
        · rename_i h2
          have hg : gIn at' 0 ((s.kinds.length : Int) - 1) = true := by
            cases hg : gIn at' 0 ((s.kinds.length : Int) - 1) with
            | true => rfl
            | false => rw [hg] at hk; cases hk
          rw [if_pos hg] at hk
          simp only [hg, if_true, hk, if_neg h1, if_neg h2]
          have hm := hrCheck_first ht.1
          have hO : RatesO (lookRates s l at') := lookGo_O ht.2.2 (.inl rfl)
          have hr := hO.resolve_left (by intro e; rw [e] at h1; exact h1 (by decide))
          have hw := widen_ok hm.2.2 hr
          refine ⟨⟨kindOk_of ht.1 (List.mem_of_getElem? hk), hw.1, hw.2.1, ?_, hw.2.2⟩, h0, trivial, trivial, trivial, by omega⟩
          dsimp only
          omega
  · contradiction
def HrK.least (x : HrK) : Frac := ⟨60 * (x.k.weight.lo - x.k.rest), x.rates.hi⟩
def HrK.most (x : HrK) : Frac := if 0 < x.rates.lo then ⟨60 * (x.k.weight.hi - x.k.rest), x.rates.lo⟩ else ⟨-1, 1⟩
theorem cEnds (x : HrK) (hx : HrKOk x) : PCall Tryz.prog 58 [x.pv] (.tuple [x.least.pv, x.most.pv]) := by
  have hk := hx.k
  have h1 := hk.lo; have h2 := hk.le; have h3 := hk.hi; have h4 := hk.rest; have h5 := hk.less
  refine pcall_of_wp draws (fn := Tryz.f58) (n := 37) (rs := [.cell 2 135, .cell 3 135]) (by kernel_rfl) rfl rfl rfl ok58 (Nat.le_of_ble_eq_true rfl) ?_
  have w1 : IntKind.i64.wrap (x.k.weight.lo - x.k.rest) = x.k.weight.lo - x.k.rest := wrap_in (by omega) (by omega)
  have w2 : IntKind.i64.wrap (60 * (x.k.weight.lo - x.k.rest)) = 60 * (x.k.weight.lo - x.k.rest) := wrap_in (by omega) (by omega)
  have w3 : IntKind.i64.wrap (x.k.weight.hi - x.k.rest) = x.k.weight.hi - x.k.rest := wrap_in (by omega) (by omega)
  have w4 : IntKind.i64.wrap (60 * (x.k.weight.hi - x.k.rest)) = 60 * (x.k.weight.hi - x.k.rest) := wrap_in (by omega) (by omega)
  simp (maxSteps := 400000) only [w1, w2, go_sem, simprocAttr]
  cases hp : decide (0 < x.rates.lo)
  · have hp' : ¬ 0 < x.rates.lo := by simpa using hp
    simp (maxSteps := 400000) only [w3, w4, H58, W_drawH, HrK.least, HrK.most, if_neg hp', go_sem, simprocAttr]
  · have hp' : 0 < x.rates.lo := by simpa using hp
    simp (maxSteps := 400000) only [w3, w4, H58, W_drawH, HrK.least, HrK.most, if_pos hp', go_sem, simprocAttr]
def HrK.promise (x : HrK) : Int := if Frac.down ⟨x.least.top, x.least.below * 60⟩ < 16666 then Frac.down ⟨x.least.top, x.least.below * 60⟩ else 16666
theorem HrKOk.leastB {x : HrK} (hx : HrKOk x) : 60 ≤ x.least.top ∧ x.least.top ≤ 600000000 ∧ 1 ≤ x.least.below ∧ x.least.below ≤ 901800000 := by
  have hk := hx.k
  have h1 := hk.lo; have h2 := hk.le; have h3 := hk.hi; have h4 := hk.rest; have h5 := hk.less; have h6 := hx.pos; have h7 := hx.hi
  simp only [HrK.least]
  omega
theorem HrKOk.mostB {x : HrK} (hx : HrKOk x) : -1 ≤ x.most.top ∧ x.most.top ≤ 600000000 ∧ 1 ≤ x.most.below ∧ x.most.below ≤ 901800000 := by
  have hk := hx.k
  have h1 := hk.lo; have h2 := hk.le; have h3 := hk.hi; have h4 := hk.rest; have h5 := hk.less; have h6 := hx.le; have h7 := hx.hi
  simp only [HrK.most]
  split <;> dsimp only <;> omega
theorem cPromise0 (x : HrK) (hx : HrKOk x) : PCall Tryz.prog 46 [x.pv] (.int .i64 x.promise) := by
  have hb := hx.leastB
  refine pcall_of_wp draws (fn := Tryz.f46) (n := 17) (rs := [.tmp 2]) (by kernel_rfl) rfl rfl rfl ok46 (Nat.le_of_ble_eq_true rfl) ?_
  simp (maxSteps := 400000) only [go_sem, simprocAttr]
  refine WF_pure (cEnds x hx) rfl ?_
  have w1 : IntKind.i64.wrap (x.least.below * 60) = x.least.below * 60 := wrap_in (by omega) (by omega)
  simp (maxSteps := 400000) only [w1, go_sem, simprocAttr]
  refine WF_pure (cDown ⟨x.least.top, x.least.below * 60⟩ (by show 0 < x.least.below * 60; omega) (by show _ ≤ x.least.top; omega) (by show x.least.top ≤ _; omega)) rfl ?_
  simp (maxSteps := 400000) only [HrK.promise, go_sem, simprocAttr]
theorem intB {n : Int} (h1 : -1000000000 ≤ n) (h2 : n ≤ 1000000000) : Frac.B ⟨n, 1⟩ := by simp only [Frac.B]; omega
def HrK.short (x : HrK) (r : HrRule) : Bool := x.least.lt ⟨r.minutes.lo, 1⟩
def HrK.long (x : HrK) (r : HrRule) : Bool := decide (x.most.top < 0) || Frac.lt ⟨r.minutes.hi, 1⟩ x.most
def HrK.size (x : HrK) (r : HrRule) : Bool := !gIn x.k.weight.lo r.weight.lo r.weight.hi || !gIn x.k.weight.hi r.weight.lo r.weight.hi
theorem cShort (x : HrK) (r : HrRule) (hx : HrKOk x) (hr : HrRuleOk r) : PCall Tryz.prog 62 [x.pv, r.pv] (.bool (x.short r)) := by
  have hb := hx.leastB
  have h1 := hr.mlo; have h2 := hr.mle; have h3 := hr.mhi
  refine pcall_of_wp draws (fn := Tryz.f62) (n := 18) (rs := [.tmp 4]) (by kernel_rfl) rfl rfl rfl ok62 (Nat.le_of_ble_eq_true rfl) ?_
  simp (maxSteps := 400000) only [go_sem, simprocAttr]
  refine WF_pure (cEnds x hx) rfl ?_
  simp (maxSteps := 400000) only [go_sem, simprocAttr]
  refine WF_pure (cLess x.least ⟨r.minutes.lo, 1⟩ ⟨by omega, by omega, by omega, by omega⟩ (intB (by omega) (by omega))) rfl ?_
  simp (maxSteps := 400000) only [HrK.short, go_sem, simprocAttr]
theorem cLong (x : HrK) (r : HrRule) (hx : HrKOk x) (hr : HrRuleOk r) : PCall Tryz.prog 63 [x.pv, r.pv] (.bool (x.long r)) := by
  have hb := hx.mostB
  have h1 := hr.mlo; have h2 := hr.mle; have h3 := hr.mhi
  refine pcall_of_wp draws (fn := Tryz.f63) (n := 23) (rs := [.tmp 4]) (by kernel_rfl) rfl rfl rfl ok63 (Nat.le_of_ble_eq_true rfl) ?_
  simp (maxSteps := 400000) only [go_sem, simprocAttr]
  refine WF_pure (cEnds x hx) rfl ?_
  simp (maxSteps := 400000) only [go_sem, simprocAttr]
  cases hm : decide (x.most.top < 0)
  · simp (maxSteps := 400000) only [go_sem, simprocAttr]
    refine WF_pure (cLess ⟨r.minutes.hi, 1⟩ x.most (intB (by omega) (by omega)) ⟨by omega, by omega, by omega, by omega⟩) rfl ?_
    simp (maxSteps := 400000) only [HrK.long, hm, go_sem, simprocAttr]
  · simp (maxSteps := 400000) only [HrK.long, hm, go_sem, simprocAttr]
theorem cSize (x : HrK) (r : HrRule) : PCall Tryz.prog 64 [x.pv, r.pv] (.bool (x.size r)) := by
  refine pcall_of_wp draws (fn := Tryz.f64) (n := 21) (rs := [.tmp 4]) (by kernel_rfl) rfl rfl rfl ok64 (Nat.le_of_ble_eq_true rfl) ?_
  simp (maxSteps := 400000) only [go_sem, simprocAttr]
  refine WF_pure (cHrOut r.weight.lo r.weight.hi [_, _] true (by simp)) rfl ?_
  simp (maxSteps := 400000) only [List.any_cons, List.any_nil, Bool.or_false, HrK.size, go_sem, simprocAttr]
def hrRates (s : HrShop) (l : List HrTest) (at' : Int) : Span × Int := if (hrLook s l at').2 = 0 then ((hrLook s l at').1.rates, 0) else (⟨0, 0⟩, (hrLook s l at').2)
theorem cRates (s : HrShop) (l : List HrTest) (at' : Int) : PCall Tryz.prog 13 [s.pv, .slice 3 (l.map HrTest.pv) false, .int .i64 at'] (.tuple [(hrRates s l at').1.pv, .int .i64 (hrRates s l at').2]) := by
  refine pcall_of_wp draws (fn := Tryz.f13) (n := 23) (rs := [.cell 6 25, .tmp 7]) (by kernel_rfl) rfl rfl rfl ok13 (Nat.le_of_ble_eq_true rfl) ?_
  simp (maxSteps := 400000) only [go_sem, simprocAttr]
  refine WF_pure (cLook s l at') rfl ?_
  simp (maxSteps := 400000) only [go_sem, simprocAttr]
  cases h0 : ((hrLook s l at').2 != 0)
  · have h0' : (hrLook s l at').2 = 0 := by simpa using h0
    simp (maxSteps := 400000) only [hrRates, h0', Span.pv, go_sem, simprocAttr]
  · have h0' : ¬ (hrLook s l at').2 = 0 := by simpa using h0
    simp (maxSteps := 400000) only [hrRates, if_neg h0', Span.pv, go_sem, simprocAttr]
def hrPromise (s : HrShop) (l : List HrTest) (at' : Int) : Int × Int := if (hrLook s l at').2 = 0 then ((hrLook s l at').1.promise, 0) else (0, (hrLook s l at').2)
theorem cPromise (s : HrShop) (l : List HrTest) (at' : Int) : PCall Tryz.prog 12 [s.pv, .slice 3 (l.map HrTest.pv) false, .int .i64 at'] (.tuple [.int .i64 (hrPromise s l at').1, .int .i64 (hrPromise s l at').2]) := by
  refine pcall_of_wp draws (fn := Tryz.f12) (n := 22) (rs := [.tmp 6, .tmp 7]) (by kernel_rfl) rfl rfl rfl ok12 (Nat.le_of_ble_eq_true rfl) ?_
  simp (maxSteps := 400000) only [go_sem, simprocAttr]
  refine WF_pure (cLook s l at') rfl ?_
  simp (maxSteps := 400000) only [go_sem, simprocAttr]
  cases h0 : ((hrLook s l at').2 != 0)
  · have h0' : (hrLook s l at').2 = 0 := by simpa using h0
    simp (maxSteps := 400000) only [go_sem, simprocAttr]
    refine WF_pure (cPromise0 _ (hrLook_ok h0').1) rfl ?_
    simp (maxSteps := 400000) only [hrPromise, if_pos h0', go_sem, simprocAttr]
  · have h0' : ¬ (hrLook s l at').2 = 0 := by simpa using h0
    simp (maxSteps := 400000) only [hrPromise, if_neg h0', go_sem, simprocAttr]
def HrK.minutes (x : HrK) : Span := ⟨if x.least.down < 1000000 then x.least.down else 1000000, if gIn x.most.up 0 1000000 = true then x.most.up else 1000000⟩
def hrMinutes (s : HrShop) (l : List HrTest) (at' : Int) : Span × Int := if (hrLook s l at').2 = 0 then ((hrLook s l at').1.minutes, 0) else (⟨0, 0⟩, (hrLook s l at').2)
theorem cMinutes (s : HrShop) (l : List HrTest) (at' : Int) : PCall Tryz.prog 31 [s.pv, .slice 3 (l.map HrTest.pv) false, .int .i64 at'] (.tuple [(hrMinutes s l at').1.pv, .int .i64 (hrMinutes s l at').2]) := by
  refine pcall_of_wp draws (fn := Tryz.f31) (n := 39) (rs := [.cell 6 25, .tmp 7]) (by kernel_rfl) rfl rfl rfl ok31 (Nat.le_of_ble_eq_true rfl) ?_
  simp (maxSteps := 400000) only [go_sem, simprocAttr]
  refine WF_pure (cLook s l at') rfl ?_
  simp (maxSteps := 400000) only [go_sem, simprocAttr]
  cases h0 : ((hrLook s l at').2 != 0)
  rotate_left
  · have h0' : ¬ (hrLook s l at').2 = 0 := by simpa using h0
    simp (maxSteps := 400000) only [hrMinutes, if_neg h0', Span.pv, go_sem, simprocAttr]
  have h0' : (hrLook s l at').2 = 0 := by simpa using h0
  have hx := (hrLook_ok h0').1
  have hb := hx.leastB
  have hb2 := hx.mostB
  rw [hrMinutes, if_pos h0']
  generalize (hrLook s l at').1 = x at hx hb hb2
  simp (maxSteps := 400000) only [go_sem, simprocAttr]
  refine WF_pure (cEnds x hx) rfl ?_
  simp (maxSteps := 400000) only [go_sem, simprocAttr]
  refine WDQ_pure (cDown x.least (by omega) (by omega) (by omega)) rfl ?_
  simp (maxSteps := 400000) only [go_sem, simprocAttr]
  refine WDQ_pure (cUp x.most (by omega) (by omega) (by omega)) rfl ?_
  simp (maxSteps := 400000) only [go_sem, simprocAttr]
  refine WF_pure (cHrOut 0 1000000 [_] true (by simp)) rfl ?_
  simp (maxSteps := 400000) only [List.any_cons, List.any_nil, Bool.or_false, go_sem, simprocAttr]
  cases h1 : gIn x.most.up 0 1000000
  · simp (maxSteps := 400000) only [HrK.minutes, h1, Span.pv, go_sem, simprocAttr]
  · simp (maxSteps := 400000) only [HrK.minutes, h1, Span.pv, go_sem, simprocAttr]
def HrK.fits (x : HrK) (r : HrRule) : Int := if x.short r = true then 1 else if x.long r = true then 2 else if x.size r = true then 3 else 0
def hrFits (s : HrShop) (l : List HrTest) (at' rule : Int) : Int × Int :=
  if (hrLook s l at').2 = 0 then
    match (if gIn rule 0 ((s.rules.length : Int) - 1) = true then s.rules[rule.toNat]? else none) with
    | none => (0, 4)
    | some r => ((hrLook s l at').1.fits r, 0)
  else (0, (hrLook s l at').2)
set_option maxHeartbeats 2000000 in
theorem cFitsHr (s : HrShop) (l : List HrTest) (at' rule : Int) : PCall Tryz.prog 32 [s.pv, .slice 3 (l.map HrTest.pv) false, .int .i64 at', .int .i64 rule] (.tuple [.int .i64 (hrFits s l at' rule).1, .int .i64 (hrFits s l at' rule).2]) := by
  refine pcall_of_wp draws (fn := Tryz.f32) (n := 54) (rs := [.tmp 8, .tmp 9]) (by kernel_rfl) rfl rfl rfl ok32 (Nat.le_of_ble_eq_true rfl) ?_
  simp (maxSteps := 400000) only [go_sem, simprocAttr]
  refine WF_pure (cLook s l at') rfl ?_
  simp (maxSteps := 400000) only [go_sem, simprocAttr]
  cases h0 : ((hrLook s l at').2 != 0)
  rotate_left
  · have h0' : ¬ (hrLook s l at').2 = 0 := by simpa using h0
    simp (maxSteps := 400000) only [hrFits, if_neg h0', go_sem, simprocAttr]
  have h0' : (hrLook s l at').2 = 0 := by simpa using h0
  have hL := hrLook_ok h0'
  have hx := hL.1
  have hc := (hrTests_ok hL.2.1).1
  have hk := hrCheck_kinds hc
  rw [hrFits, if_pos h0']
  generalize (hrLook s l at').1 = x at hx
  have hw : IntKind.i64.wrap ((s.rules.length : Int) - 1) = (s.rules.length : Int) - 1 := wrap_in (by omega) (by omega)
  simp (maxSteps := 400000) only [hw, go_sem, simprocAttr]
  refine WF_pure (cHrOut 0 _ [_] true (by simp)) rfl ?_
  simp (maxSteps := 400000) only [List.any_cons, List.any_nil, Bool.or_false, go_sem, simprocAttr]
  cases h2 : gIn rule 0 ((s.rules.length : Int) - 1)
  · simp (maxSteps := 400000) only [go_sem, simprocAttr]
  obtain ⟨g1, g2⟩ : 0 ≤ rule ∧ rule ≤ (s.rules.length : Int) - 1 := by simpa [gIn] using h2
  obtain ⟨n, rfl⟩ := Int.eq_ofNat_of_zero_le g1
  have hn : n < s.rules.length := by omega
  obtain ⟨r, hrn⟩ : ∃ r, s.rules[n]? = some r := ⟨_, List.getElem?_eq_getElem hn⟩
  have hro := ruleOk_of hc (List.mem_of_getElem? hrn)
  have hlt : (n : Int) < (s.rules.length : Int) := by omega
  rw [if_pos rfl, Int.toNat_natCast, hrn]
  simp (maxSteps := 400000) only [go_sem, simprocAttr]
  refine W_unroll ?_
  simp (maxSteps := 400000) only [hlt, hrn, go_sem, simprocAttr]
  refine WF_pure (cShort x r hx hro) rfl ?_
  simp (maxSteps := 400000) only [go_sem, simprocAttr]
  cases z1 : x.short r
  rotate_left
  · simp (maxSteps := 400000) only [HrK.fits, z1, go_sem, simprocAttr]
  simp (maxSteps := 400000) only [go_sem, simprocAttr]
  refine W_unroll ?_
  simp (maxSteps := 400000) only [hlt, hrn, go_sem, simprocAttr]
  refine WF_pure (cLong x r hx hro) rfl ?_
  simp (maxSteps := 400000) only [go_sem, simprocAttr]
  cases z2 : x.long r
  rotate_left
  · simp (maxSteps := 400000) only [HrK.fits, z1, z2, go_sem, simprocAttr]
  simp (maxSteps := 400000) only [go_sem, simprocAttr]
  refine W_unroll ?_
  simp (maxSteps := 400000) only [hlt, hrn, go_sem, simprocAttr]
  refine WF_pure (cSize x r) rfl ?_
  simp (maxSteps := 400000) only [go_sem, simprocAttr]
  cases z3 : x.size r
  rotate_left
  · simp (maxSteps := 400000) only [HrK.fits, z1, z2, z3, go_sem, simprocAttr]
  simp (maxSteps := 400000) only [go_sem, simprocAttr]
  refine W_unroll ?_
  simp (maxSteps := 400000) only [HrK.fits, z1, z2, z3, go_sem, simprocAttr]
end Abs
end Go.Proofs.YtbojkcmohgbpaaaGreatDoor
namespace Go.Proofs.YtbojkcmohgbpaaaGreatDoor
namespace Abs
set_option linter.unusedSimpArgs false
set_option linter.unusedVariables false
set_option maxRecDepth 4000
def mpE (p : Int × Int) : PV × PV := (.int .i64 p.1, .int .i64 p.2)
def mpGet (k : Int) : List (Int × Int) → Option Int
  | [] => none
  | (q, v) :: r => if k = q then some v else mpGet k r
theorem mapGet_int (k : Int) : ∀ es : List (Int × Int), mapGet (.int .i64 k) (es.map mpE) = some ((mpGet k es).map fun v => .int .i64 v)
  | [] => rfl
  | (q, v) :: r => by
    rw [List.map_cons, mapGet.eq_def]
    simp only [mpE, keyEq, if_true]
    cases h : (k == q)
    · rw [mpGet, if_neg (by simpa using h)]
      exact mapGet_int k r
    · rw [mpGet, if_pos (by simpa using h)]
      rfl
theorem mapPut_int (k v : Int) : ∀ es : List (Int × Int), mpGet k es = none → mapPut (.int .i64 k) (.int .i64 v) (es.map mpE) = some ((es ++ [(k, v)]).map mpE)
  | [], _ => rfl
  | (q, u) :: r, h => by
    rw [mpGet] at h
    split at h
    · cases h
    · rename_i hne
      rw [List.map_cons, mapPut.eq_def]
      simp only [mpE, keyEq, if_true]
      rw [show (k == q) = false by simpa using hne]
      dsimp only
      rw [mapPut_int k v r h]
      rfl
theorem mpGet_append (k : Int) (a : Int × Int) : ∀ es : List (Int × Int), mpGet k (es ++ [a]) = (mpGet k es).or (if k = a.1 then some a.2 else none)
  | [] => by simp [mpGet]
  | (q, u) :: r => by
    rw [List.cons_append, mpGet, mpGet]
    split
    · rfl
    · exact mpGet_append k a r
def boxErr (s : HrShop) (l : List HrTest) (b : HrBox) : Int :=
  if gIn b.kind 0 ((s.kinds.length : Int) - 1) = true then (if gIn b.hours 0 1000000 = true then (hrLook s l b.kind).2 else 7) else 4
def brokenGo (s : HrShop) (l : List HrTest) : Nat → List HrBox → List Int × Int
  | _, [] => ([], 0)
  | i, b :: r =>
    if boxErr s l b = 0 then
      (if (brokenGo s l (i + 1) r).2 = 0 then ((if (hrLook s l b.kind).1.promise < b.hours then [(i : Int)] else []) ++ (brokenGo s l (i + 1) r).1, 0) else ([], (brokenGo s l (i + 1) r).2))
    else ([], boxErr s l b)
def hrBroken (s : HrShop) (l : List HrTest) (boxes : List HrBox) : List Int × Int :=
  if hrTests s l = 0 then (if 20 < boxes.length then ([], 3) else brokenGo s l 0 boxes) else ([], hrTests s l)
def joinB (out : List Int) (q : List Int × Int) : List Int × Int := if q.2 = 0 then (out ++ q.1, 0) else ([], q.2)
theorem join_err {s : HrShop} {l : List HrTest} {out : List Int} {i : Nat} {b : HrBox} {r : List HrBox} {e : Int} (h : boxErr s l b = e) (he : e ≠ 0) : joinB out (brokenGo s l i (b :: r)) = ([], e) := by
  rw [brokenGo, h, if_neg he, joinB, if_neg he]
theorem join_ok {s : HrShop} {l : List HrTest} {out : List Int} {i : Nat} {b : HrBox} {r : List HrBox} (h : boxErr s l b = 0) :
    joinB out (brokenGo s l i (b :: r)) = joinB (out ++ (if (hrLook s l b.kind).1.promise < b.hours then [(i : Int)] else [])) (brokenGo s l (i + 1) r) := by
  rw [brokenGo, if_pos h]
  by_cases h2 : (brokenGo s l (i + 1) r).2 = 0
  · rw [if_pos h2, joinB, joinB, if_pos rfl, if_pos h2, List.append_assoc]
  · rw [if_neg h2, joinB, joinB, if_neg h2, if_neg h2]
theorem look_minus (s : HrShop) (l : List HrTest) : hrLook s l (-1) = (⟨emptyK, ⟨0, 0⟩⟩, if hrTests s l = 0 then 4 else hrTests s l) := by
  rw [hrLook]
  split
  · rw [show gIn (-1) 0 ((s.kinds.length : Int) - 1) = false by simp [gIn]]; rfl
  · rfl
set_option maxHeartbeats 2000000 in
theorem cBroken (s : HrShop) (l : List HrTest) (boxes : List HrBox) : PCall Tryz.prog 33 [s.pv, .slice 3 (l.map HrTest.pv) false, .slice 2 (boxes.map HrBox.pv) false] (.tuple [nums (hrBroken s l boxes).1, .int .i64 (hrBroken s l boxes).2]) := by
  refine pcall_of_wp_frzN draws (fn := Tryz.f33) (n := 91) (rs := [.tmp 6, .tmp 7]) (by kernel_rfl) rfl rfl rfl ok33 (Nat.le_of_ble_eq_true rfl) ?_
  simp (maxSteps := 400000) only [go_sem, simprocAttr]
  refine WF_pure (cLook s l (-1)) rfl ?_
  simp (maxSteps := 400000) only [look_minus, go_sem, simprocAttr]
  cases h0 : decide (hrTests s l = 0)
  · have h0' : ¬ hrTests s l = 0 := by simpa using h0
    have hsp : hrBroken s l boxes = ([], hrTests s l) := by rw [hrBroken, if_neg h0']
    rw [hsp, if_neg h0']
    have hch : (hrCheck s).2.2 = 0 → hrTests s l = 4 → l.length < 1000000000 := by
      intro hc h4
      unfold hrTests at h4
      rw [if_pos hc] at h4
      split at h4
      · cases h4
      · omega
    cases h4 : (hrTests s l != 4)
    · have h4' : hrTests s l = 4 := by simpa using h4
      simp (maxSteps := 400000) only [go_sem, simprocAttr]
      refine WF_pure (cHrOpen s l false (fun hc => hch hc h4')) rfl ?_
      have hop : (hrOpen s l != 0) = true := by
        unfold hrTests at h4'
        unfold hrOpen
        split at h4'
        · rename_i hc
          split at h4'
          · cases h4'
          · rw [if_pos hc, h4']; rfl
        · rename_i hc
          rw [if_neg hc, h4']; rfl
      simp (maxSteps := 400000) only [hop, nums, List.map_nil, go_sem, simprocAttr]
      exact ⟨_, _, rfl, rfl, .inr ⟨rfl, 1, rfl⟩, .inl rfl, trivial⟩
    · simp (maxSteps := 400000) only [nums, List.map_nil, go_sem, simprocAttr]
      exact ⟨_, _, rfl, rfl, .inr ⟨rfl, 1, rfl⟩, .inl rfl, trivial⟩
  have h0' : hrTests s l = 0 := by simpa using h0
  have hok := hrTests_ok h0'
  have hkk := hrCheck_kinds hok.1
  have hop : hrOpen s l = 0 := by rw [hrOpen, if_pos hok.1, hok.2.2]
  rw [if_pos h0']
  simp (maxSteps := 400000) only [go_sem, simprocAttr]
  refine WF_pure (cHrOpen s l false (fun _ => by omega)) rfl ?_
  simp (maxSteps := 400000) only [hop, go_sem, simprocAttr]
  cases h20 : decide ((20 : Int) < (boxes.length : Int))
  rotate_left
  · have h20' : 20 < boxes.length := by simp at h20; omega
    have hsp : hrBroken s l boxes = ([], 3) := by rw [hrBroken, if_pos h0', if_pos h20']
    rw [hsp]
    simp (maxSteps := 400000) only [nums, List.map_nil, go_sem, simprocAttr]
    exact ⟨_, _, rfl, rfl, .inr ⟨rfl, 1, rfl⟩, .inl rfl, trivial⟩
  have h20' : ¬ 20 < boxes.length := by simp at h20; omega
  have hsp : hrBroken s l boxes = brokenGo s l 0 boxes := by rw [hrBroken, if_pos h0', if_neg h20']
  rw [hsp]
  have hj : brokenGo s l 0 boxes = joinB [] (brokenGo s l 0 boxes) := by
    have key : ∀ q : List Int × Int, (q.2 ≠ 0 → q.1 = []) → q = joinB [] q := by
      rintro ⟨a, b⟩ h
      simp only [joinB, List.nil_append]
      split
      · rename_i h1; rw [show b = 0 from h1]
      · rename_i h1; rw [show a = [] from h h1]
    refine key _ ?_
    generalize (0 : Nat) = i
    cases boxes with
    | nil => intro h; exact absurd rfl h
    | cons b r =>
      intro h
      rw [brokenGo] at h ⊢
      split
      · split
        · rename_i h1 h2; rw [if_pos h1, if_pos h2] at h; exact absurd rfl h
        · rfl
      · rfl
  rw [hj]
  simp (maxSteps := 400000) only [go_sem, simprocAttr]
  refine W_loop_nil 6 1 (by simp (maxSteps := 400000) only [go_sem, simprocAttr]) ?_
  simp (maxSteps := 400000) only [go_sem, simprocAttr]
  refine W_loopK [1, 3, 8, 36, 37] (σ := List HrBox × List HrBox × List Int × List (Int × Int) × Heap)
    (fun q => boxes = q.1 ++ q.2.1 ∧ joinB [] (brokenGo s l 0 boxes) = joinB q.2.2.1 (brokenGo s l q.1.length q.2.1) ∧ q.2.2.1.length ≤ q.1.length ∧
      ∀ k v, mpGet k q.2.2.2.1 = some v → (hrLook s l k).2 = 0 ∧ v = (hrLook s l k).1.promise) (fun q => q.2.1.length)
    (fun q => [(6, .slice 2 q.2.2.1.length 0 q.2.2.1.length), (38, .p (.int .i64 q.1.length))])
    (fun q => [.row 3 [.p s.pv], .mp (q.2.2.2.1.map mpE), .row 1 (q.2.2.1.map fun n => .p (intPV n))] ++ q.2.2.2.2) ([], boxes, [], [], []) ⟨rfl, rfl, Nat.le_refl _, fun k v h => by cases h⟩ (by simp (maxSteps := 400000) only [List.map_nil, List.append_nil, go_sem, simprocAttr]) ?_ ?_
  · simp (maxSteps := 400000) only [go_sem, simprocAttr]
  rintro ⟨done, rest, out, es, g⟩ ⟨e1, e2, e3, e4⟩
  dsimp only at e1 e2 e3 e4
  cases rest with
  | nil =>
    have hlt : ¬ ((done.length : Int) < (boxes.length : Int)) := by rw [e1]; simp
    have e5 : joinB out (brokenGo s l done.length []) = (out, 0) := by rw [brokenGo, joinB, if_pos rfl, List.append_nil]
    rw [e2, e5]
    simp (maxSteps := 400000) only [hlt, decide_false, nums, go_sem, simprocAttr]
    exact .inl rfl
  | cons b r =>
    obtain ⟨hx, hltt⟩ := list_at e1
    have hlen1 := congrArg List.length e1
    simp only [List.length_append, List.length_cons] at hlen1
    have hnx : IntKind.i64.wrap ((done.length : Int) + 1) = (((done ++ [b]).length : Nat) : Int) := wrap_add (by omega) (by simp [room]; omega) (by simp)
    have g0 := hap_g0 (lo := g) rfl
    have s0 := hap_s0 (lo := g) rfl
    have gg := hap_gg (lo := g) rfl
    have ss := hap_ss (lo := g) rfl
    have hw : IntKind.i64.wrap ((s.kinds.length : Int) - 1) = (s.kinds.length : Int) - 1 := wrap_in (by omega) (by omega)
    simp (maxSteps := 400000) only [hltt, decide_true, hx, g0, s0, gg, ss, hw, go_sem, simprocAttr]
    refine WF_pure (cHrOut 0 _ [_] true (by simp)) rfl ?_
    simp (maxSteps := 400000) only [List.any_cons, List.any_nil, Bool.or_false, go_sem, simprocAttr]
    cases h2 : gIn b.kind 0 ((s.kinds.length : Int) - 1)
    · rw [e2, join_err (e := 4) (by rw [boxErr, h2]; rfl) (by decide)]
      simp (maxSteps := 400000) only [nums, List.map_nil, go_sem, simprocAttr]
      exact ⟨_, _, rfl, rfl, .inr ⟨rfl, 1, rfl⟩, .inl rfl, trivial⟩
    simp (maxSteps := 400000) only [g0, s0, gg, ss, go_sem, simprocAttr]
    refine WF_pure (cHrOut 0 1000000 [_] true (by simp)) rfl ?_
    simp (maxSteps := 400000) only [List.any_cons, List.any_nil, Bool.or_false, go_sem, simprocAttr]
    cases h3 : gIn b.hours 0 1000000
    · rw [e2, join_err (e := 7) (by rw [boxErr, h2, h3]; rfl) (by decide)]
      simp (maxSteps := 400000) only [nums, List.map_nil, go_sem, simprocAttr]
      exact ⟨_, _, rfl, rfl, .inr ⟨rfl, 1, rfl⟩, .inl rfl, trivial⟩
    have hbe : boxErr s l b = (hrLook s l b.kind).2 := by rw [boxErr, h2, h3]; rfl
    have hgi := mapGet_int b.kind es
    simp (maxSteps := 400000) only [g0, s0, gg, ss, hgi, go_sem, simprocAttr]
    have hrm : out.length + 1 ≤ room := by simp [room]; omega
    cases hm : mpGet b.kind es with
    | some v =>
      obtain ⟨hl0, rfl⟩ := e4 _ _ hm
      have hj2 := join_ok (out := out) (i := done.length) (r := r) (hbe.trans hl0)
      simp (maxSteps := 400000) only [g0, s0, gg, ss, go_sem, simprocAttr]
      cases h9 : decide ((hrLook s l b.kind).1.promise < b.hours)
      · have h9' : ¬ (hrLook s l b.kind).1.promise < b.hours := by simpa using h9
        rw [if_neg h9', List.append_nil] at hj2
        simp (maxSteps := 400000) only [g0, s0, gg, ss, go_sem, simprocAttr]
        refine WQ_headK (done ++ [b], r, out, es, g ++ [.row 2 [.p b.pv]]) ⟨by rw [e1]; simp, by rw [e2, hj2]; simp, by simp; omega, e4⟩ (Nat.lt_succ_self _) (by simp (maxSteps := 400000) only [List.append_assoc, go_sem, simprocAttr]) ?_
        simp (maxSteps := 400000) only [hnx, go_sem, simprocAttr]
      · have h9' : (hrLook s l b.kind).1.promise < b.hours := by simpa using h9
        rw [if_pos h9'] at hj2
        simp (maxSteps := 400000) only [g0, s0, gg, ss, hrm, go_sem, simprocAttr]
        refine WQ_headK (done ++ [b], r, out ++ [((done.length : Nat) : Int)], es, g ++ [.row 2 [.p b.pv]]) ⟨by rw [e1]; simp, by rw [e2, hj2]; simp, by simp; omega, e4⟩ (Nat.lt_succ_self _) (by simp (maxSteps := 400000) only [List.append_assoc, List.map_append, go_sem, simprocAttr]) ?_
        simp (maxSteps := 400000) only [hnx, List.length_append, List.length_singleton, go_sem, simprocAttr]
    | none =>
      simp (maxSteps := 400000) only [g0, s0, gg, ss, go_sem, simprocAttr]
      refine WF_pure (cLook s l b.kind) rfl ?_
      simp (maxSteps := 400000) only [g0, s0, gg, ss, List.append_assoc, List.length_append, List.length_singleton, go_sem, simprocAttr]
      cases hl : ((hrLook s l b.kind).2 != 0)
      rotate_left
      · have hl' : (hrLook s l b.kind).2 ≠ 0 := by simpa using hl
        rw [e2, join_err hbe hl']
        simp (maxSteps := 400000) only [nums, List.map_nil, go_sem, simprocAttr]
        exact ⟨_, _, rfl, rfl, .inr ⟨rfl, 1, rfl⟩, .inl rfl, trivial⟩
      have hl0 : (hrLook s l b.kind).2 = 0 := by simpa using hl
      have hj2 := join_ok (out := out) (i := done.length) (r := r) (hbe.trans hl0)
      have hmp := mapPut_int b.kind (hrLook s l b.kind).1.promise es hm
      have hes : ∀ k v, mpGet k (es ++ [(b.kind, (hrLook s l b.kind).1.promise)]) = some v → (hrLook s l k).2 = 0 ∧ v = (hrLook s l k).1.promise := by
        intro k v h
        rw [mpGet_append] at h
        cases hk : mpGet k es with
        | some u => rw [hk] at h; cases h; exact e4 k _ hk
        | none =>
          rw [hk] at h
          dsimp only [Option.or] at h
          split at h
          · rename_i hkk; cases h; rw [hkk]; exact ⟨hl0, rfl⟩
          · cases h
      simp (maxSteps := 400000) only [g0, s0, gg, ss, go_sem, simprocAttr]
      refine WF_pure (cPromise0 _ (hrLook_ok hl0).1) rfl ?_
      simp (maxSteps := 400000) only [g0, s0, gg, ss, hmp, go_sem, simprocAttr]
      cases h9 : decide ((hrLook s l b.kind).1.promise < b.hours)
      · have h9' : ¬ (hrLook s l b.kind).1.promise < b.hours := by simpa using h9
        rw [if_neg h9', List.append_nil] at hj2
        simp (maxSteps := 400000) only [g0, s0, gg, ss, go_sem, simprocAttr]
        refine WQ_headK (done ++ [b], r, out, es ++ [(b.kind, (hrLook s l b.kind).1.promise)], g ++ [.row 2 [.p b.pv], .row 6 [.p (hrLook s l b.kind).1.pv]]) ⟨by rw [e1]; simp, by rw [e2, hj2]; simp, by simp; omega, hes⟩ (Nat.lt_succ_self _) (by simp (maxSteps := 400000) only [List.append_assoc, go_sem, simprocAttr]) ?_
        simp (maxSteps := 400000) only [hnx, go_sem, simprocAttr]
      · have h9' : (hrLook s l b.kind).1.promise < b.hours := by simpa using h9
        rw [if_pos h9'] at hj2
        simp (maxSteps := 400000) only [g0, s0, gg, ss, hrm, go_sem, simprocAttr]
        refine WQ_headK (done ++ [b], r, out ++ [((done.length : Nat) : Int)], es ++ [(b.kind, (hrLook s l b.kind).1.promise)], g ++ [.row 2 [.p b.pv], .row 6 [.p (hrLook s l b.kind).1.pv]]) ⟨by rw [e1]; simp, by rw [e2, hj2]; simp, by simp; omega, hes⟩ (Nat.lt_succ_self _) (by simp (maxSteps := 400000) only [List.append_assoc, List.map_append, go_sem, simprocAttr]) ?_
        simp (maxSteps := 400000) only [hnx, List.length_append, List.length_singleton, go_sem, simprocAttr]
end Abs
end Go.Proofs.YtbojkcmohgbpaaaGreatDoor
