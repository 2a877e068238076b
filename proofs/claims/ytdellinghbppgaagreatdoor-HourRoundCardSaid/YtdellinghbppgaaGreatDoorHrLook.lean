/-
  CONTRACTS: look: a kind with its rates. No conditions but those in the theorems' heads.
-/
import Derived.Test.YtdellinghbppgaaGreatDoorHrOdd
import Derived.Test.YtdellinghbppgaaGreatDoorStrAll
namespace Go.Proofs.YtdellinghbppgaaGreatDoor
namespace Abs
set_option linter.unusedSimpArgs false
set_option linter.unusedVariables false
set_option maxRecDepth 4000

/-! a valid shop -/
structure HrKindOk (k : HrKind) : Prop where
  lo : 1 ≤ k.weight.lo
  le : k.weight.lo ≤ k.weight.hi
  hi : k.weight.hi ≤ 10000000
  rest : 0 ≤ k.rest
  less : k.rest < k.weight.lo
  name : nameOk k.name = true
structure HrRuleOk (r : HrRule) : Prop where
  mlo : 0 ≤ r.minutes.lo
  mle : r.minutes.lo ≤ r.minutes.hi
  mhi : r.minutes.hi ≤ 1000000
  wlo : 0 ≤ r.weight.lo
  wle : r.weight.lo ≤ r.weight.hi
  whi : r.weight.hi ≤ 10000000
theorem firstE_none {α : Type} {f : List ByteArray → α → Int} {nm : α → ByteArray} : ∀ {l : List α} {before : List ByteArray}, firstErr f nm l before = none → ∀ (a : List α) (x : α) (r : List α), l = a ++ x :: r → f (before ++ a.map nm) x = 0
  | [], _, _, a, x, r, e => by simp at e
  | y :: l, before, h, a, x, r, e => by
    rw [firstErr] at h
    split at h
    · rename_i h0
      cases a with
      | nil =>
        obtain ⟨hz, _⟩ := List.cons.inj e
        subst hz
        simpa using h0
      | cons z a =>
        obtain ⟨hz, e'⟩ := List.cons.inj e
        subst hz
        have := firstE_none h a x r e'
        simpa using this
    · cases h
theorem firstE_ne {α : Type} {f : List ByteArray → α → Int} {nm : α → ByteArray} : ∀ {l : List α} {before : List ByteArray} {i e : Int}, firstErr f nm l before = some (i, e) → e ≠ 0
  | [], _, _, _, h => by cases h
  | y :: r, before, i, e, h => by
    rw [firstErr] at h
    split at h
    · exact firstE_ne h
    · rename_i h0
      cases h; exact h0
theorem split_at {α : Type} {l : List α} {x : α} (h : x ∈ l) : ∃ a r, l = a ++ x :: r := List.append_of_mem h
theorem hrCheck_first {s : HrShop} (h : (hrCheck s).2.2 = 0) : firstErr hrKindErr (·.name) s.kinds [] = none ∧ firstErr hrRuleErr (·.name) s.rules [] = none ∧ 0 ≤ s.margin ∧ s.margin ≤ 500 := by
  unfold hrCheck at h
  split at h
  · split at h
    · rename_i h2
      unfold hrTail at h
      split at h
      · rename_i i e he
        exact absurd h (firstE_ne he)
      · rename_i he
        split at h
        · rename_i i e he2
          exact absurd h (firstE_ne he2)
        · rename_i he2
          exact ⟨he, he2, by simpa [gIn] using h2⟩
    · cases h
  · cases h
theorem named_ok {before : List ByteArray} {s : ByteArray} (h : namedErr before s = 0) : nameOk s = true ∧ ∀ b, b ∈ before → b ≠ s := by
  unfold namedErr at h
  split at h
  · rename_i h1
    split at h
    · cases h
    · rename_i h2
      refine ⟨h1, fun b hb e => h2 ?_⟩
      rw [List.any_eq_true]
      exact ⟨b, hb, (baBeq _ _).2 e⟩
  · cases h
theorem kindOk_of {s : HrShop} (h : (hrCheck s).2.2 = 0) {k : HrKind} (hk : k ∈ s.kinds) : HrKindOk k := by
  obtain ⟨a, r, e⟩ := split_at hk
  have := firstE_none (hrCheck_first h).1 a k r e
  unfold hrKindErr at this
  split at this
  · rename_i h0
    unfold hrKindBase at this
    split at this
    · rename_i h1
      split at this
      · cases this
      · rename_i h2
        simp [gIn] at h1 h2
        exact ⟨by omega, by omega, by omega, by omega, by omega, (named_ok h0).1⟩
    · cases this
  · contradiction
theorem ruleOk_of {s : HrShop} (h : (hrCheck s).2.2 = 0) {k : HrRule} (hk : k ∈ s.rules) : HrRuleOk k := by
  obtain ⟨a, r, e⟩ := split_at hk
  have := firstE_none (hrCheck_first h).2.1 a k r e
  unfold hrRuleErr at this
  split at this
  · rename_i h0
    unfold hrRuleBase at this
    split at this
    · rename_i h1
      split at this
      · cases this
      · rename_i h2
        simp [gIn] at h1 h2
        exact ⟨by omega, by omega, by omega, by omega, by omega, by omega⟩
    · cases this
  · contradiction
/-- names differ -/
theorem kinds_differ {s : HrShop} (h : (hrCheck s).2.2 = 0) {i j : Nat} {a b : HrKind} (hi : s.kinds[i]? = some a) (hj : s.kinds[j]? = some b) (hn : a.name = b.name) : i = j := by
  have key : ∀ (i j : Nat) (a b : HrKind), s.kinds[i]? = some a → s.kinds[j]? = some b → a.name = b.name → i < j → False := by
    intro i j a b hi hj hn hij
    have hjl := (List.getElem?_eq_some_iff.1 hj).1
    have e : s.kinds = s.kinds.take j ++ b :: s.kinds.drop (j + 1) := by
      have h1 := List.drop_eq_getElem_cons hjl
      rw [(List.getElem?_eq_some_iff.1 hj).2] at h1
      rw [← h1, List.take_append_drop]
    have := firstE_none (hrCheck_first h).1 _ b _ e
    unfold hrKindErr at this
    split at this
    · rename_i h0
      refine (named_ok h0).2 a.name ?_ hn
      rw [List.nil_append, List.mem_map]
      refine ⟨a, List.mem_of_getElem? (i := i) ?_, rfl⟩
      rw [List.getElem?_take, if_pos hij]; exact hi
    · contradiction
  rcases Nat.lt_trichotomy i j with h1 | h1 | h1
  · exact (key i j a b hi hj hn h1).elim
  · exact h1
  · exact (key j i b a hj hi hn.symm h1).elim

/-! rates -/
theorem hrRate_le {t : HrTest} (hok : TestOk t) : 0 ≤ (hrRate t).1.lo ∧ 0 ≤ (hrRate t).1.hi ∧ (hrRate t).1.lo ≤ 601200000 ∧ (hrRate t).1.hi ≤ 601200000 := by
  have hb := rateF_best hok
  have key : ∀ p, p ∈ pairL t → p.1.down ≤ 601200000 ∧ p.2.up ≤ 601200000 := by
    intro p hp
    obtain ⟨q, hq, rfl⟩ := (mem_pairL t p).1 hp
    have hB := pairL_ok hok _ hp
    obtain ⟨b1, b2⟩ : q.1 ∈ t.marks ∧ q.2 ∈ t.marks := by
      have key : ∀ l : List HrMark, ∀ q, q ∈ prs l → q.1 ∈ l ∧ q.2 ∈ l := by
        intro l
        induction l with
        | nil => intro q hq; cases hq
        | cons x r ih =>
          intro q hq
          rw [prs, List.mem_append, List.mem_map] at hq
          rcases hq with ⟨y, hy, rfl⟩ | hq
          · exact ⟨by simp, by simp [hy]⟩
          · have := ih q hq; exact ⟨by simp [this.1], by simp [this.2]⟩
      exact key _ q hq
    have m1 := hok.all _ b1
    have m2 := hok.all _ b2
    have he := hok.err
    have hd : 0 < q.2.minute - q.1.minute := hB.2.2.1
    refine ⟨?_, (Frac.up_le hB.2.2.2 _).2 ?_⟩
    · refine Int.le_of_lt_add_one (Int.lt_of_not_ge fun h => ?_)
      have h := (Frac.down_le hB.2.2.1 _).1 h
      simp only [fracs] at h
      have : (601200000 + 1) * 1 ≤ (601200000 + 1) * (q.2.minute - q.1.minute) := Int.mul_le_mul_of_nonneg_left (by omega) (by omega)
      omega
    · simp only [fracs]
      have : (601200000) * 1 ≤ (601200000) * (q.2.minute - q.1.minute) := Int.mul_le_mul_of_nonneg_left (by omega) (by omega)
      omega
  obtain ⟨⟨⟨p, hp, e1⟩, _⟩, ⟨q, hq, e2⟩, _⟩ := hb
  have k1 := (key p hp).1
  have k2 := (key q hq).2
  rw [e1] at k1
  rw [e2] at k2
  simp only [hrRate, mx0]
  refine ⟨?_, ?_, ?_, ?_⟩ <;> split <;> omega
theorem hrRate_ordered {t : HrTest} (hok : TestOk t) (hp : poss t = true) : (hrRate t).1.lo ≤ (hrRate t).1.hi := by
  have hr := rateF_ok hok
  have hle : (rateF t).1.le (rateF t).2 := by
    rw [poss, hrRate] at hp
    dsimp only at hp
    rw [Bool.not_eq_true', Frac.lt_false] at hp
    exact hp
  have h1 : (rateF t).1.down ≤ (rateF t).2.up := by
    have a1 : (rateF t).1.down * (rateF t).1.below ≤ (rateF t).1.top := (Frac.down_le hr.2.2.1 _).1 (Int.le_refl _)
    have a2 : (rateF t).2.top ≤ (rateF t).2.up * (rateF t).2.below := (Frac.up_le hr.2.2.2 _).1 (Int.le_refl _)
    have b1 : Frac.le ⟨(rateF t).1.down, 1⟩ (rateF t).1 := (Frac.int_le _ _).2 a1
    have b2 : Frac.le (rateF t).2 ⟨(rateF t).2.up, 1⟩ := (Frac.le_int _ _).2 a2
    have := Frac.le_trans Int.one_pos hr.2.2.2 Int.one_pos (Frac.le_trans Int.one_pos hr.2.2.1 hr.2.2.2 b1 hle) b2
    simpa [Frac.le] using this
  simp only [hrRate, mx0]
  split <;> split <;> omega

/-! look -/
structure HrK where
  k : HrKind
  rates : Span
def HrK.pv (x : HrK) : PV := .agg [.str x.k.name, .int .i64 x.k.weight.lo, .int .i64 x.k.weight.hi, .int .i64 x.k.rest, .int .i64 x.rates.lo, .int .i64 x.rates.hi]
attribute [go_sem] HrK.pv
def emptyK : HrKind := ⟨⟨#[]⟩, ⟨0, 0⟩, 0⟩
def lookStep (r q : Span) : Span := if r.lo < 0 then q else ⟨if q.lo < r.lo then q.lo else r.lo, if r.hi < q.hi then q.hi else r.hi⟩
def lookGo (at' : Int) : Span → List HrTest → Span
  | r, [] => r
  | r, t :: l => lookGo at' (if t.kind = at' ∧ poss t = true then lookStep r (hrRate t).1 else r) l
def lookRates (s : HrShop) (l : List HrTest) (at' : Int) : Span := lookGo at' ⟨-1, 0⟩ l
def widen (m : Int) (r : Span) : Span := ⟨Frac.down ⟨r.lo * (1000 - m), 1000⟩, Frac.up ⟨r.hi * (1000 + m), 1000⟩⟩
def hrLook (s : HrShop) (l : List HrTest) (at' : Int) : HrK × Int :=
  if hrTests s l = 0 then
    match (if gIn at' 0 ((s.kinds.length : Int) - 1) = true then s.kinds[at'.toNat]? else none) with
    | none => (⟨emptyK, ⟨0, 0⟩⟩, 4)
    | some k =>
      if (lookRates s l at').lo < 0 then (⟨k, lookRates s l at'⟩, 9)
      else if (widen s.margin (lookRates s l at')).hi = 0 then (⟨k, widen s.margin (lookRates s l at')⟩, 8)
      else (⟨k, widen s.margin (lookRates s l at')⟩, 0)
  else (⟨emptyK, ⟨0, 0⟩⟩, hrTests s l)
def RatesB (r : Span) : Prop := (r = ⟨-1, 0⟩) ∨ (0 ≤ r.lo ∧ 0 ≤ r.hi ∧ r.lo ≤ 601200000 ∧ r.hi ≤ 601200000)
theorem lookStep_B {r q : Span} (hr : RatesB r) (hq : 0 ≤ q.lo ∧ 0 ≤ q.hi ∧ q.lo ≤ 601200000 ∧ q.hi ≤ 601200000) : RatesB (lookStep r q) := by
  unfold lookStep
  rcases hr with rfl | hr
  · rw [if_pos (by decide)]; exact .inr hq
  · rw [if_neg (by omega)]
    refine .inr ⟨?_, ?_, ?_, ?_⟩ <;> dsimp only <;> split <;> omega
theorem testsErr_all {nk : Int} : ∀ {l : List HrTest}, testsErr nk l = 0 → ∀ t, t ∈ l → hrTestErr nk t = 0
  | [], _, _, h => by cases h
  | x :: l, h, t, ht => by
    rw [testsErr] at h
    split at h
    · rename_i h0
      rcases List.mem_cons.1 ht with rfl | ht
      · exact h0
      · exact testsErr_all h t ht
    · contradiction
theorem hrTests_ok {s : HrShop} {l : List HrTest} (h : hrTests s l = 0) : (hrCheck s).2.2 = 0 ∧ l.length ≤ 8 ∧ testsErr s.kinds.length l = 0 := by
  unfold hrTests at h
  split at h
  · rename_i h0
    split at h
    · cases h
    · exact ⟨h0, by omega, h⟩
  · contradiction
set_option maxHeartbeats 2000000 in
theorem cLook (s : HrShop) (l : List HrTest) (at' : Int) : PCall Tryz.prog 72 [s.pv, .slice 3 (l.map HrTest.pv) false, .int .i64 at'] (.tuple [(hrLook s l at').1.pv, .int .i64 (hrLook s l at').2]) := by
  refine pcall_of_wp draws (fn := Tryz.f72) (n := 121) (rs := [.cell 6 120, .tmp 7]) (by kernel_rfl) rfl rfl rfl ok72 (Nat.le_of_ble_eq_true rfl) ?_
  simp (maxSteps := 400000) only [go_sem, simprocAttr]
  refine WF_pure (PCall.argless (args' := [s.pv, .nilslice]) (cHrOpen s [] false (by simp)) ⟨.inl rfl, .inr ⟨rfl, 3, rfl⟩, trivial⟩) rfl ?_
  simp (maxSteps := 400000) only [go_sem, simprocAttr]
  have hop : hrOpen s [] = (hrCheck s).2.2 := by
    unfold hrOpen
    split
    · rename_i h; rw [h]; rfl
    · rfl
  cases h0 : (hrOpen s [] == 0)
  · have h0' : ¬ (hrCheck s).2.2 = 0 := by rw [← hop]; simpa using h0
    have h0n : ((hrCheck s).2.2 != 0) = true := by simpa using h0'
    have h0b : ((hrCheck s).2.2 == 0) = false := by simpa using h0'
    have hsp : hrLook s l at' = (⟨emptyK, ⟨0, 0⟩⟩, (hrCheck s).2.2) := by
      have : hrTests s l = (hrCheck s).2.2 := by rw [hrTests, if_neg h0']
      rw [hrLook, this, if_neg h0']
    rw [hsp]
    simp (maxSteps := 400000) only [hop, h0n, h0b, emptyK, go_sem, simprocAttr]
  have h0' : (hrCheck s).2.2 = 0 := by rw [← hop]; simpa using h0
  have hk := hrCheck_kinds h0'
  have hm := hrCheck_first h0'
  have hz : hrOpen s [] = 0 := by rw [hop, h0']
  simp (maxSteps := 400000) only [hz, go_sem, simprocAttr]
  cases h8 : decide ((8 : Int) < (l.length : Int))
  rotate_left
  · have h8' : 8 < l.length := by simp at h8; omega
    have hsp : hrLook s l at' = (⟨emptyK, ⟨0, 0⟩⟩, 3) := by
      have : hrTests s l = 3 := by rw [hrTests, if_pos h0', if_pos h8']
      rw [hrLook, this, if_neg (by decide)]
    rw [hsp]
    simp (maxSteps := 400000) only [emptyK, go_sem, simprocAttr]
  have h8' : ¬ 8 < l.length := by simp at h8; omega
  have hts : hrTests s l = testsErr s.kinds.length l := by rw [hrTests, if_pos h0', if_neg h8']
  have hol : hrOpen s l = testsErr s.kinds.length l := by rw [hrOpen, if_pos h0']
  simp (maxSteps := 400000) only [hz, go_sem, simprocAttr]
  refine WF_pure (cHrOpen s l false (fun _ => by omega)) rfl ?_
  simp (maxSteps := 400000) only [hol, go_sem, simprocAttr]
  cases h1 : (testsErr s.kinds.length l != 0)
  rotate_left
  · have h1' : ¬ testsErr s.kinds.length l = 0 := by simpa using h1
    have hsp : hrLook s l at' = (⟨emptyK, ⟨0, 0⟩⟩, testsErr s.kinds.length l) := by rw [hrLook, hts, if_neg h1']
    rw [hsp]
    simp (maxSteps := 400000) only [emptyK, go_sem, simprocAttr]
  have h1' : testsErr s.kinds.length l = 0 := by simpa using h1
  have hw : IntKind.i64.wrap ((s.kinds.length : Int) - 1) = (s.kinds.length : Int) - 1 := wrap_in (by omega) (by omega)
  simp (maxSteps := 400000) only [hw, go_sem, simprocAttr]
  refine WF_pure (cHrOut 0 _ [_] true (by simp)) rfl ?_
  simp (maxSteps := 400000) only [List.any_cons, List.any_nil, Bool.or_false, go_sem, simprocAttr]
  cases h2 : gIn at' 0 ((s.kinds.length : Int) - 1)
  · have hsp : hrLook s l at' = (⟨emptyK, ⟨0, 0⟩⟩, 4) := by rw [hrLook, hts, if_pos h1', h2]; rfl
    rw [hsp]
    simp (maxSteps := 400000) only [emptyK, go_sem, simprocAttr]
  obtain ⟨g1, g2⟩ : 0 ≤ at' ∧ at' ≤ (s.kinds.length : Int) - 1 := by simpa [gIn] using h2
  obtain ⟨n, rfl⟩ := Int.eq_ofNat_of_zero_le g1
  have hn : n < s.kinds.length := by omega
  obtain ⟨k, hkn⟩ : ∃ k, s.kinds[n]? = some k := ⟨_, List.getElem?_eq_getElem hn⟩
  have hko := kindOk_of h0' (List.mem_of_getElem? hkn)
  have hlt : (n : Int) < (s.kinds.length : Int) := by omega
  have hsp : hrLook s l n = (if (lookRates s l n).lo < 0 then (⟨k, lookRates s l n⟩, 9) else if (widen s.margin (lookRates s l n)).hi = 0 then (⟨k, widen s.margin (lookRates s l n)⟩, 8) else (⟨k, widen s.margin (lookRates s l n)⟩, 0)) := by
    rw [hrLook, hts, if_pos h1', if_pos h2, Int.toNat_natCast, hkn]
  rw [hsp]
  simp (maxSteps := 400000) only [hlt, hkn, go_sem, simprocAttr]
  refine W_loopK [2, 3, 6, 48, 49] (σ := List HrTest × List HrTest × Span × Heap)
    (fun q => l = q.1 ++ q.2.1 ∧ lookRates s l n = lookGo n q.2.2.1 q.2.1 ∧ RatesB q.2.2.1) (fun q => q.2.1.length)
    (fun q => [(50, .p (.int .i64 q.1.length))]) (fun q => [.row 3 [.p s.pv], .row 6 [.p (HrK.pv ⟨k, q.2.2.1⟩)]] ++ q.2.2.2) ([], l, ⟨-1, 0⟩, []) ⟨rfl, rfl, .inl rfl⟩ (by simp (maxSteps := 400000) only [go_sem, simprocAttr]) ?_ ?_
  · simp (maxSteps := 400000) only [go_sem, simprocAttr]
  rintro ⟨done, rest, r, g⟩ ⟨e1, e2, e3⟩
  dsimp only at e1 e2 e3
  cases rest with
  | nil =>
    have hlt : ¬ ((done.length : Int) < (l.length : Int)) := by rw [e1]; simp
    rw [lookGo] at e2
    rw [e2]
    simp (maxSteps := 400000) only [hlt, decide_false, go_sem, simprocAttr]
    cases h3 : decide (r.lo < 0)
    rotate_left
    · have h3' : r.lo < 0 := by simpa using h3
      simp (maxSteps := 400000) only [if_pos h3', go_sem, simprocAttr]
    have h3' : ¬ r.lo < 0 := by simpa using h3
    have hrB : 0 ≤ r.lo ∧ 0 ≤ r.hi ∧ r.lo ≤ 601200000 ∧ r.hi ≤ 601200000 := e3.resolve_left (by rintro rfl; exact h3' (by decide))
    have q1 := mulB (a := r.lo) (b := 1000 - s.margin) (by omega) (by omega) (by omega) (by omega)
    have q2 := mulB (a := r.hi) (b := 1000 + s.margin) (by omega) (by omega) (by omega) (by omega)
    have w1 : IntKind.i64.wrap (1000 - s.margin) = 1000 - s.margin := wrap_in (by omega) (by omega)
    have w2 : IntKind.i64.wrap (1000 + s.margin) = 1000 + s.margin := wrap_in (by omega) (by omega)
    have w3 : IntKind.i64.wrap (r.lo * (1000 - s.margin)) = r.lo * (1000 - s.margin) := wrap_in (by omega) (by omega)
    have w4 : IntKind.i64.wrap (r.hi * (1000 + s.margin)) = r.hi * (1000 + s.margin) := wrap_in (by omega) (by omega)
    rw [if_neg h3']
    simp (maxSteps := 400000) only [w1, w3, go_sem, simprocAttr]
    refine WF_pure (cDown ⟨r.lo * (1000 - s.margin), 1000⟩ (by show (0:Int) < 1000; decide) q1.1 q1.2) rfl ?_
    simp (maxSteps := 400000) only [w2, w4, go_sem, simprocAttr]
    refine WF_pure (cUp ⟨r.hi * (1000 + s.margin), 1000⟩ (by show (0:Int) < 1000; decide) q2.1 q2.2) rfl ?_
    simp (maxSteps := 400000) only [go_sem, simprocAttr]
    cases h4 : ((widen s.margin r).hi == 0)
    · have h4' : ¬ (widen s.margin r).hi = 0 := by simpa using h4
      rw [if_neg h4']
      simp only [widen] at h4
      simp (maxSteps := 400000) only [h4, widen, go_sem, simprocAttr]
    · have h4' : (widen s.margin r).hi = 0 := by simpa using h4
      rw [if_pos h4']
      simp only [widen] at h4
      simp (maxSteps := 400000) only [h4, widen, go_sem, simprocAttr]
  | cons t rest =>
    obtain ⟨hx, hltt⟩ := list_at e1
    have hlen1 := congrArg List.length e1
    simp only [List.length_append, List.length_cons] at hlen1
    have hnx : IntKind.i64.wrap ((done.length : Int) + 1) = (((done ++ [t]).length : Nat) : Int) := wrap_add (by omega) (by simp [room]; omega) (by simp)
    have htok := (testErr_ok (testsErr_all h1' t (by rw [e1]; simp))).1
    have hrl := hrRate_le htok
    rw [lookGo] at e2
    have g0 := hap_g0 (lo := g) rfl
    have s0 := hap_s0 (lo := g) rfl
    have gg := hap_gg (lo := g) rfl
    have ss := hap_ss (lo := g) rfl
    simp (maxSteps := 400000) only [hltt, decide_true, hx, g0, s0, gg, ss, go_sem, simprocAttr]
    refine WF_pure (cRate0 t htok) rfl ?_
    simp (maxSteps := 400000) only [g0, s0, gg, ss, List.append_assoc, List.length_append, List.length_singleton, go_sem, simprocAttr]
    cases h5 : (t.kind != (n : Int))
    rotate_left
    · have h5' : ¬ (t.kind = (n : Int) ∧ poss t = true) := fun h => by simp [h.1] at h5
      rw [if_neg h5'] at e2
      simp (maxSteps := 400000) only [go_sem, simprocAttr]
      refine WQ_headK (done ++ [t], rest, r, g ++ [_, _]) ⟨by rw [e1]; simp, e2, e3⟩ (Nat.lt_succ_self _) rfl ?_
      simp (maxSteps := 400000) only [hnx, go_sem, simprocAttr]
    have h5k : t.kind = (n : Int) := by simpa using h5
    simp (maxSteps := 400000) only [go_sem, simprocAttr]
    cases h6 : (hrRate t).2
    · have h6' : ¬ (t.kind = (n : Int) ∧ poss t = true) := fun h => by rw [poss, h6] at h; simp at h
      rw [if_neg h6'] at e2
      simp (maxSteps := 400000) only [go_sem, simprocAttr]
      refine WQ_headK (done ++ [t], rest, r, g ++ [_, _]) ⟨by rw [e1]; simp, e2, e3⟩ (Nat.lt_succ_self _) rfl ?_
      simp (maxSteps := 400000) only [hnx, go_sem, simprocAttr]
    rw [if_pos ⟨h5k, by rw [poss, h6]⟩] at e2
    simp (maxSteps := 400000) only [go_sem, simprocAttr]
    cases h7 : decide (r.lo < 0)
    · have h7' : ¬ r.lo < 0 := by simpa using h7
      simp (maxSteps := 400000) only [g0, s0, gg, ss, List.append_assoc, List.length_append, List.length_singleton, go_sem, simprocAttr]
      refine WQ_headK (done ++ [t], rest, lookStep r (hrRate t).1, g ++ [_, _]) ⟨by rw [e1]; simp, e2, lookStep_B e3 hrl⟩ (Nat.lt_succ_self _) (by simp (maxSteps := 400000) only [lookStep, if_neg h7', go_sem, simprocAttr]; exact ⟨rfl, rfl⟩) ?_
      simp (maxSteps := 400000) only [hnx, go_sem, simprocAttr]
    · have h7' : r.lo < 0 := by simpa using h7
      simp (maxSteps := 400000) only [g0, s0, gg, ss, List.append_assoc, List.length_append, List.length_singleton, Int.lt_irrefl, go_sem, simprocAttr]
      refine WQ_headK (done ++ [t], rest, lookStep r (hrRate t).1, g ++ [_, _]) ⟨by rw [e1]; simp, e2, lookStep_B e3 hrl⟩ (Nat.lt_succ_self _) (by simp (maxSteps := 400000) only [lookStep, if_pos h7', go_sem, simprocAttr]; exact ⟨rfl, rfl⟩) ?_
      simp (maxSteps := 400000) only [hnx, go_sem, simprocAttr]
end Abs
end Go.Proofs.YtdellinghbppgaaGreatDoor
