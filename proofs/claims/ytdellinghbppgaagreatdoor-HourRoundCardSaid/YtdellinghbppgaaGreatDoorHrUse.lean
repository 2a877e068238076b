/-
  CONTRACTS: what follows from the rates of a kind: minutes, a promise, rules, boxes. No conditions but those in the theorems' heads.
-/
import Derived.Test.YtdellinghbppgaaGreatDoorHrLook
namespace Go.Proofs.YtdellinghbppgaaGreatDoor
namespace Abs
set_option linter.unusedSimpArgs false
set_option linter.unusedVariables false
set_option maxRecDepth 4000

structure HrKOk (x : HrK) : Prop where
  k : HrKindOk x.k
  lo : 0 ≤ x.rates.lo
  le : x.rates.lo ≤ x.rates.hi
  pos : 1 ≤ x.rates.hi
  hi : x.rates.hi ≤ 901800000
def RatesO (r : Span) : Prop := (r = ⟨-1, 0⟩) ∨ (0 ≤ r.lo ∧ r.lo ≤ r.hi ∧ r.hi ≤ 601200000)
theorem lookStep_O {r q : Span} (hr : RatesO r) (hq : 0 ≤ q.lo ∧ q.lo ≤ q.hi ∧ q.hi ≤ 601200000) : RatesO (lookStep r q) := by
  unfold lookStep
  rcases hr with rfl | hr
  · rw [if_pos (by decide)]; exact .inr hq
  · rw [if_neg (by omega)]
    refine .inr ⟨?_, ?_, ?_⟩ <;> dsimp only <;> split <;> (try split) <;> omega
theorem lookGo_O {nk at' : Int} : ∀ {l : List HrTest} {r : Span}, testsErr nk l = 0 → RatesO r → RatesO (lookGo at' r l)
  | [], _, _, h => h
  | t :: l, r, h, hr => by
    have h1 := testsErr_all h
    have h2 : testsErr nk l = 0 := by rw [testsErr] at h; split at h <;> (first | exact h | contradiction)
    rw [lookGo]
    refine lookGo_O h2 ?_
    split
    · rename_i hc
      have hok := (testErr_ok (h1 t (by simp))).1
      have := hrRate_le hok
      exact lookStep_O hr ⟨this.1, hrRate_ordered hok hc.2, this.2.2.2⟩
    · exact hr
theorem widen_ok {m : Int} {r : Span} (hm : 0 ≤ m ∧ m ≤ 500) (hr : 0 ≤ r.lo ∧ r.lo ≤ r.hi ∧ r.hi ≤ 601200000) : 0 ≤ (widen m r).lo ∧ (widen m r).lo ≤ (widen m r).hi ∧ (widen m r).hi ≤ 901800000 := by
  have e1 : 0 ≤ (widen m r).lo := by
    refine (Frac.down_le (f := ⟨r.lo * (1000 - m), 1000⟩) (by show (0:Int) < 1000; decide) 0).2 ?_
    have : 0 ≤ r.lo * (1000 - m) := Int.mul_nonneg (by omega) (by omega)
    simpa using this
  have e2 : (widen m r).lo ≤ r.lo := by
    have := (Frac.down_le (f := ⟨r.lo * (1000 - m), 1000⟩) (by show (0:Int) < 1000; decide) (widen m r).lo).1 (Int.le_refl _)
    dsimp only at this
    have h2 : r.lo * (1000 - m) ≤ r.lo * 1000 := Int.mul_le_mul_of_nonneg_left (by omega) (by omega)
    omega
  have e3 : r.hi ≤ (widen m r).hi := by
    have := (Frac.up_le (f := ⟨r.hi * (1000 + m), 1000⟩) (by show (0:Int) < 1000; decide) (widen m r).hi).1 (Int.le_refl _)
    dsimp only at this
    have h2 : r.hi * 1000 ≤ r.hi * (1000 + m) := Int.mul_le_mul_of_nonneg_left (by omega) (by omega)
    omega
  have e4 : (widen m r).hi ≤ 901800000 := by
    refine (Frac.up_le (f := ⟨r.hi * (1000 + m), 1000⟩) (by show (0:Int) < 1000; decide) _).2 ?_
    dsimp only
    have h2 : r.hi * (1000 + m) ≤ r.hi * 1500 := Int.mul_le_mul_of_nonneg_left (by omega) (by omega)
    omega
  omega
theorem hrLook_ok {s : HrShop} {l : List HrTest} {at' : Int} (h : (hrLook s l at').2 = 0) : HrKOk (hrLook s l at').1 ∧ hrTests s l = 0 ∧ gIn at' 0 ((s.kinds.length : Int) - 1) = true ∧
    s.kinds[at'.toNat]? = some (hrLook s l at').1.k ∧ (hrLook s l at').1.rates = widen s.margin (lookRates s l at') ∧ 0 ≤ (lookRates s l at').lo := by
  unfold hrLook at h ⊢
  split at h
  · rename_i h0
    have ht := hrTests_ok h0
    rw [if_pos h0]
    split at h
    · cases h
    · rename_i k hk
      split at h
      · cases h
      · rename_i h1
        split at h
        · cases h
        · rename_i h2
          have hg : gIn at' 0 ((s.kinds.length : Int) - 1) = true := by
            cases hg : gIn at' 0 ((s.kinds.length : Int) - 1) with
            | true => rfl
            | false => rw [hg] at hk; cases hk
          rw [if_pos hg] at hk
          simp only [hg, if_true, hk, if_neg h1, if_neg h2]
          have hm := hrCheck_first ht.1
          have hO : RatesO (lookRates s l at') := lookGo_O ht.2.2 (.inl rfl)
          have hr := hO.resolve_left (by intro e; rw [e] at h1; exact h1 (by decide))
          have hw := widen_ok hm.2.2 hr
          refine ⟨⟨kindOk_of ht.1 (List.mem_of_getElem? hk), hw.1, hw.2.1, ?_, hw.2.2⟩, h0, trivial, trivial, trivial, by omega⟩
          dsimp only
          omega
  · contradiction

def HrK.least (x : HrK) : Frac := ⟨60 * (x.k.weight.lo - x.k.rest), x.rates.hi⟩
def HrK.most (x : HrK) : Frac := if 0 < x.rates.lo then ⟨60 * (x.k.weight.hi - x.k.rest), x.rates.lo⟩ else ⟨-1, 1⟩
theorem cEnds (x : HrK) (hx : HrKOk x) : PCall Tryz.prog 77 [x.pv] (.tuple [x.least.pv, x.most.pv]) := by
  have hk := hx.k
  have h1 := hk.lo; have h2 := hk.le; have h3 := hk.hi; have h4 := hk.rest; have h5 := hk.less
  refine pcall_of_wp draws (fn := Tryz.f77) (n := 37) (rs := [.cell 2 127, .cell 3 127]) (by kernel_rfl) rfl rfl rfl ok77 (Nat.le_of_ble_eq_true rfl) ?_
  have w1 : IntKind.i64.wrap (x.k.weight.lo - x.k.rest) = x.k.weight.lo - x.k.rest := wrap_in (by omega) (by omega)
  have w2 : IntKind.i64.wrap (60 * (x.k.weight.lo - x.k.rest)) = 60 * (x.k.weight.lo - x.k.rest) := wrap_in (by omega) (by omega)
  have w3 : IntKind.i64.wrap (x.k.weight.hi - x.k.rest) = x.k.weight.hi - x.k.rest := wrap_in (by omega) (by omega)
  have w4 : IntKind.i64.wrap (60 * (x.k.weight.hi - x.k.rest)) = 60 * (x.k.weight.hi - x.k.rest) := wrap_in (by omega) (by omega)
  simp (maxSteps := 400000) only [w1, w2, go_sem, simprocAttr]
  cases hp : decide (0 < x.rates.lo)
  · have hp' : ¬ 0 < x.rates.lo := by simpa using hp
    simp (maxSteps := 400000) only [w3, w4, H77, W_drawH, HrK.least, HrK.most, if_neg hp', go_sem, simprocAttr]
  · have hp' : 0 < x.rates.lo := by simpa using hp
    simp (maxSteps := 400000) only [w3, w4, H77, W_drawH, HrK.least, HrK.most, if_pos hp', go_sem, simprocAttr]
def HrK.promise (x : HrK) : Int := if Frac.down ⟨x.least.top, x.least.below * 60⟩ < 16666 then Frac.down ⟨x.least.top, x.least.below * 60⟩ else 16666
theorem HrKOk.leastB {x : HrK} (hx : HrKOk x) : 60 ≤ x.least.top ∧ x.least.top ≤ 600000000 ∧ 1 ≤ x.least.below ∧ x.least.below ≤ 901800000 := by
  have hk := hx.k
  have h1 := hk.lo; have h2 := hk.le; have h3 := hk.hi; have h4 := hk.rest; have h5 := hk.less; have h6 := hx.pos; have h7 := hx.hi
  simp only [HrK.least]
  omega
theorem HrKOk.mostB {x : HrK} (hx : HrKOk x) : -1 ≤ x.most.top ∧ x.most.top ≤ 600000000 ∧ 1 ≤ x.most.below ∧ x.most.below ≤ 901800000 := by
  have hk := hx.k
  have h1 := hk.lo; have h2 := hk.le; have h3 := hk.hi; have h4 := hk.rest; have h5 := hk.less; have h6 := hx.le; have h7 := hx.hi
  simp only [HrK.most]
  split <;> dsimp only <;> omega
theorem cPromise0 (x : HrK) (hx : HrKOk x) : PCall Tryz.prog 76 [x.pv] (.int .i64 x.promise) := by
  have hb := hx.leastB
  refine pcall_of_wp draws (fn := Tryz.f76) (n := 17) (rs := [.tmp 2]) (by kernel_rfl) rfl rfl rfl ok76 (Nat.le_of_ble_eq_true rfl) ?_
  simp (maxSteps := 400000) only [go_sem, simprocAttr]
  refine WF_pure (cEnds x hx) rfl ?_
  have w1 : IntKind.i64.wrap (x.least.below * 60) = x.least.below * 60 := wrap_in (by omega) (by omega)
  simp (maxSteps := 400000) only [w1, go_sem, simprocAttr]
  refine WF_pure (cDown ⟨x.least.top, x.least.below * 60⟩ (by show 0 < x.least.below * 60; omega) (by show _ ≤ x.least.top; omega) (by show x.least.top ≤ _; omega)) rfl ?_
  simp (maxSteps := 400000) only [HrK.promise, go_sem, simprocAttr]
theorem intB {n : Int} (h1 : -1000000000 ≤ n) (h2 : n ≤ 1000000000) : Frac.B ⟨n, 1⟩ := by simp only [Frac.B]; omega
def HrK.short (x : HrK) (r : HrRule) : Bool := x.least.lt ⟨r.minutes.lo, 1⟩
def HrK.long (x : HrK) (r : HrRule) : Bool := decide (x.most.top < 0) || Frac.lt ⟨r.minutes.hi, 1⟩ x.most
def HrK.size (x : HrK) (r : HrRule) : Bool := !gIn x.k.weight.lo r.weight.lo r.weight.hi || !gIn x.k.weight.hi r.weight.lo r.weight.hi
theorem cShort (x : HrK) (r : HrRule) (hx : HrKOk x) (hr : HrRuleOk r) : PCall Tryz.prog 73 [x.pv, r.pv] (.bool (x.short r)) := by
  have hb := hx.leastB
  have h1 := hr.mlo; have h2 := hr.mle; have h3 := hr.mhi
  refine pcall_of_wp draws (fn := Tryz.f73) (n := 18) (rs := [.tmp 4]) (by kernel_rfl) rfl rfl rfl ok73 (Nat.le_of_ble_eq_true rfl) ?_
  simp (maxSteps := 400000) only [go_sem, simprocAttr]
  refine WF_pure (cEnds x hx) rfl ?_
  simp (maxSteps := 400000) only [go_sem, simprocAttr]
  refine WF_pure (cLess x.least ⟨r.minutes.lo, 1⟩ ⟨by omega, by omega, by omega, by omega⟩ (intB (by omega) (by omega))) rfl ?_
  simp (maxSteps := 400000) only [HrK.short, go_sem, simprocAttr]
theorem cLong (x : HrK) (r : HrRule) (hx : HrKOk x) (hr : HrRuleOk r) : PCall Tryz.prog 74 [x.pv, r.pv] (.bool (x.long r)) := by
  have hb := hx.mostB
  have h1 := hr.mlo; have h2 := hr.mle; have h3 := hr.mhi
  refine pcall_of_wp draws (fn := Tryz.f74) (n := 23) (rs := [.tmp 4]) (by kernel_rfl) rfl rfl rfl ok74 (Nat.le_of_ble_eq_true rfl) ?_
  simp (maxSteps := 400000) only [go_sem, simprocAttr]
  refine WF_pure (cEnds x hx) rfl ?_
  simp (maxSteps := 400000) only [go_sem, simprocAttr]
  cases hm : decide (x.most.top < 0)
  · simp (maxSteps := 400000) only [go_sem, simprocAttr]
    refine WF_pure (cLess ⟨r.minutes.hi, 1⟩ x.most (intB (by omega) (by omega)) ⟨by omega, by omega, by omega, by omega⟩) rfl ?_
    simp (maxSteps := 400000) only [HrK.long, hm, go_sem, simprocAttr]
  · simp (maxSteps := 400000) only [HrK.long, hm, go_sem, simprocAttr]
theorem cSize (x : HrK) (r : HrRule) : PCall Tryz.prog 75 [x.pv, r.pv] (.bool (x.size r)) := by
  refine pcall_of_wp draws (fn := Tryz.f75) (n := 21) (rs := [.tmp 4]) (by kernel_rfl) rfl rfl rfl ok75 (Nat.le_of_ble_eq_true rfl) ?_
  simp (maxSteps := 400000) only [go_sem, simprocAttr]
  refine WF_pure (cHrOut r.weight.lo r.weight.hi [_, _] true (by simp)) rfl ?_
  simp (maxSteps := 400000) only [List.any_cons, List.any_nil, Bool.or_false, HrK.size, go_sem, simprocAttr]

/-! what shops are asked -/
def hrRates (s : HrShop) (l : List HrTest) (at' : Int) : Span × Int := if (hrLook s l at').2 = 0 then ((hrLook s l at').1.rates, 0) else (⟨0, 0⟩, (hrLook s l at').2)
theorem cRates (s : HrShop) (l : List HrTest) (at' : Int) : PCall Tryz.prog 27 [s.pv, .slice 3 (l.map HrTest.pv) false, .int .i64 at'] (.tuple [(hrRates s l at').1.pv, .int .i64 (hrRates s l at').2]) := by
  refine pcall_of_wp draws (fn := Tryz.f27) (n := 23) (rs := [.cell 6 47, .tmp 7]) (by kernel_rfl) rfl rfl rfl ok27 (Nat.le_of_ble_eq_true rfl) ?_
  simp (maxSteps := 400000) only [go_sem, simprocAttr]
  refine WF_pure (cLook s l at') rfl ?_
  simp (maxSteps := 400000) only [go_sem, simprocAttr]
  cases h0 : ((hrLook s l at').2 != 0)
  · have h0' : (hrLook s l at').2 = 0 := by simpa using h0
    simp (maxSteps := 400000) only [hrRates, h0', Span.pv, go_sem, simprocAttr]
  · have h0' : ¬ (hrLook s l at').2 = 0 := by simpa using h0
    simp (maxSteps := 400000) only [hrRates, if_neg h0', Span.pv, go_sem, simprocAttr]
def hrPromise (s : HrShop) (l : List HrTest) (at' : Int) : Int × Int := if (hrLook s l at').2 = 0 then ((hrLook s l at').1.promise, 0) else (0, (hrLook s l at').2)
theorem cPromise (s : HrShop) (l : List HrTest) (at' : Int) : PCall Tryz.prog 38 [s.pv, .slice 3 (l.map HrTest.pv) false, .int .i64 at'] (.tuple [.int .i64 (hrPromise s l at').1, .int .i64 (hrPromise s l at').2]) := by
  refine pcall_of_wp draws (fn := Tryz.f38) (n := 22) (rs := [.tmp 6, .tmp 7]) (by kernel_rfl) rfl rfl rfl ok38 (Nat.le_of_ble_eq_true rfl) ?_
  simp (maxSteps := 400000) only [go_sem, simprocAttr]
  refine WF_pure (cLook s l at') rfl ?_
  simp (maxSteps := 400000) only [go_sem, simprocAttr]
  cases h0 : ((hrLook s l at').2 != 0)
  · have h0' : (hrLook s l at').2 = 0 := by simpa using h0
    simp (maxSteps := 400000) only [go_sem, simprocAttr]
    refine WF_pure (cPromise0 _ (hrLook_ok h0').1) rfl ?_
    simp (maxSteps := 400000) only [hrPromise, if_pos h0', go_sem, simprocAttr]
  · have h0' : ¬ (hrLook s l at').2 = 0 := by simpa using h0
    simp (maxSteps := 400000) only [hrPromise, if_neg h0', go_sem, simprocAttr]
def HrK.minutes (x : HrK) : Span := ⟨if x.least.down < 1000000 then x.least.down else 1000000, if gIn x.most.up 0 1000000 = true then x.most.up else 1000000⟩
def hrMinutes (s : HrShop) (l : List HrTest) (at' : Int) : Span × Int := if (hrLook s l at').2 = 0 then ((hrLook s l at').1.minutes, 0) else (⟨0, 0⟩, (hrLook s l at').2)
theorem cMinutes (s : HrShop) (l : List HrTest) (at' : Int) : PCall Tryz.prog 39 [s.pv, .slice 3 (l.map HrTest.pv) false, .int .i64 at'] (.tuple [(hrMinutes s l at').1.pv, .int .i64 (hrMinutes s l at').2]) := by
  refine pcall_of_wp draws (fn := Tryz.f39) (n := 39) (rs := [.cell 6 47, .tmp 7]) (by kernel_rfl) rfl rfl rfl ok39 (Nat.le_of_ble_eq_true rfl) ?_
  simp (maxSteps := 400000) only [go_sem, simprocAttr]
  refine WF_pure (cLook s l at') rfl ?_
  simp (maxSteps := 400000) only [go_sem, simprocAttr]
  cases h0 : ((hrLook s l at').2 != 0)
  rotate_left
  · have h0' : ¬ (hrLook s l at').2 = 0 := by simpa using h0
    simp (maxSteps := 400000) only [hrMinutes, if_neg h0', Span.pv, go_sem, simprocAttr]
  have h0' : (hrLook s l at').2 = 0 := by simpa using h0
  have hx := (hrLook_ok h0').1
  have hb := hx.leastB
  have hb2 := hx.mostB
  rw [hrMinutes, if_pos h0']
  generalize (hrLook s l at').1 = x at hx hb hb2
  simp (maxSteps := 400000) only [go_sem, simprocAttr]
  refine WF_pure (cEnds x hx) rfl ?_
  simp (maxSteps := 400000) only [go_sem, simprocAttr]
  refine WDQ_pure (cDown x.least (by omega) (by omega) (by omega)) rfl ?_
  simp (maxSteps := 400000) only [go_sem, simprocAttr]
  refine WDQ_pure (cUp x.most (by omega) (by omega) (by omega)) rfl ?_
  simp (maxSteps := 400000) only [go_sem, simprocAttr]
  refine WF_pure (cHrOut 0 1000000 [_] true (by simp)) rfl ?_
  simp (maxSteps := 400000) only [List.any_cons, List.any_nil, Bool.or_false, go_sem, simprocAttr]
  cases h1 : gIn x.most.up 0 1000000
  · simp (maxSteps := 400000) only [HrK.minutes, h1, Span.pv, go_sem, simprocAttr]
  · simp (maxSteps := 400000) only [HrK.minutes, h1, Span.pv, go_sem, simprocAttr]

def HrK.fits (x : HrK) (r : HrRule) : Int := if x.short r = true then 1 else if x.long r = true then 2 else if x.size r = true then 3 else 0
def hrFits (s : HrShop) (l : List HrTest) (at' rule : Int) : Int × Int :=
  if (hrLook s l at').2 = 0 then
    match (if gIn rule 0 ((s.rules.length : Int) - 1) = true then s.rules[rule.toNat]? else none) with
    | none => (0, 4)
    | some r => ((hrLook s l at').1.fits r, 0)
  else (0, (hrLook s l at').2)
set_option maxHeartbeats 2000000 in
theorem cFitsHr (s : HrShop) (l : List HrTest) (at' rule : Int) : PCall Tryz.prog 28 [s.pv, .slice 3 (l.map HrTest.pv) false, .int .i64 at', .int .i64 rule] (.tuple [.int .i64 (hrFits s l at' rule).1, .int .i64 (hrFits s l at' rule).2]) := by
  refine pcall_of_wp draws (fn := Tryz.f28) (n := 54) (rs := [.tmp 8, .tmp 9]) (by kernel_rfl) rfl rfl rfl ok28 (Nat.le_of_ble_eq_true rfl) ?_
  simp (maxSteps := 400000) only [go_sem, simprocAttr]
  refine WF_pure (cLook s l at') rfl ?_
  simp (maxSteps := 400000) only [go_sem, simprocAttr]
  cases h0 : ((hrLook s l at').2 != 0)
  rotate_left
  · have h0' : ¬ (hrLook s l at').2 = 0 := by simpa using h0
    simp (maxSteps := 400000) only [hrFits, if_neg h0', go_sem, simprocAttr]
  have h0' : (hrLook s l at').2 = 0 := by simpa using h0
  have hL := hrLook_ok h0'
  have hx := hL.1
  have hc := (hrTests_ok hL.2.1).1
  have hk := hrCheck_kinds hc
  rw [hrFits, if_pos h0']
  generalize (hrLook s l at').1 = x at hx
  have hw : IntKind.i64.wrap ((s.rules.length : Int) - 1) = (s.rules.length : Int) - 1 := wrap_in (by omega) (by omega)
  simp (maxSteps := 400000) only [hw, go_sem, simprocAttr]
  refine WF_pure (cHrOut 0 _ [_] true (by simp)) rfl ?_
  simp (maxSteps := 400000) only [List.any_cons, List.any_nil, Bool.or_false, go_sem, simprocAttr]
  cases h2 : gIn rule 0 ((s.rules.length : Int) - 1)
  · simp (maxSteps := 400000) only [go_sem, simprocAttr]
  obtain ⟨g1, g2⟩ : 0 ≤ rule ∧ rule ≤ (s.rules.length : Int) - 1 := by simpa [gIn] using h2
  obtain ⟨n, rfl⟩ := Int.eq_ofNat_of_zero_le g1
  have hn : n < s.rules.length := by omega
  obtain ⟨r, hrn⟩ : ∃ r, s.rules[n]? = some r := ⟨_, List.getElem?_eq_getElem hn⟩
  have hro := ruleOk_of hc (List.mem_of_getElem? hrn)
  have hlt : (n : Int) < (s.rules.length : Int) := by omega
  rw [if_pos rfl, Int.toNat_natCast, hrn]
  simp (maxSteps := 400000) only [go_sem, simprocAttr]
  refine W_unroll ?_
  simp (maxSteps := 400000) only [hlt, hrn, go_sem, simprocAttr]
  refine WF_pure (cShort x r hx hro) rfl ?_
  simp (maxSteps := 400000) only [go_sem, simprocAttr]
  cases z1 : x.short r
  rotate_left
  · simp (maxSteps := 400000) only [HrK.fits, z1, go_sem, simprocAttr]
  simp (maxSteps := 400000) only [go_sem, simprocAttr]
  refine W_unroll ?_
  simp (maxSteps := 400000) only [hlt, hrn, go_sem, simprocAttr]
  refine WF_pure (cLong x r hx hro) rfl ?_
  simp (maxSteps := 400000) only [go_sem, simprocAttr]
  cases z2 : x.long r
  rotate_left
  · simp (maxSteps := 400000) only [HrK.fits, z1, z2, go_sem, simprocAttr]
  simp (maxSteps := 400000) only [go_sem, simprocAttr]
  refine W_unroll ?_
  simp (maxSteps := 400000) only [hlt, hrn, go_sem, simprocAttr]
  refine WF_pure (cSize x r) rfl ?_
  simp (maxSteps := 400000) only [go_sem, simprocAttr]
  cases z3 : x.size r
  rotate_left
  · simp (maxSteps := 400000) only [HrK.fits, z1, z2, z3, go_sem, simprocAttr]
  simp (maxSteps := 400000) only [go_sem, simprocAttr]
  refine W_unroll ?_
  simp (maxSteps := 400000) only [HrK.fits, z1, z2, z3, go_sem, simprocAttr]
end Abs
end Go.Proofs.YtdellinghbppgaaGreatDoor
