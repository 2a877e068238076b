/-
  CONTRACTS: the laws HourTruth and HourOdd. No conditions but those in the theorems' heads.
-/
import Derived.Test.YtdellinghbppgaaGreatDoorHrTruth
import Derived.Test.YtdellinghbppgaaGreatDoorHrOdd2
namespace Go.Proofs.YtdellinghbppgaaGreatDoor
namespace Abs
set_option linter.unusedSimpArgs false
set_option linter.unusedVariables false
set_option maxRecDepth 100000

theorem shop_bad {s : HrShop} (h : (hrCheck s).2.2 ≠ 0) (t : HrTest) : (hrRateR s t).2 = (hrCheck s).2.2 := by
  have : hrOpen s [t] = (hrCheck s).2.2 := by rw [hrOpen, if_neg h]
  rw [hrRateR, this, if_neg h]
theorem oddR_good {s : HrShop} {t : HrTest} (h1 : (hrCheck s).2.2 = 0) (h2 : hrTestErr s.kinds.length t = 0) : hrOddR s t = (hrOdd t, 0) := by
  rw [hrOddR, if_pos (openS_of h1 h2)]
set_option maxHeartbeats 4000000 in
theorem lHourTruth (s : HrShop) (x : Burnt) (hx : BurntOk x) : PCall Tryz.prog 6 [s.pv, x.pv] (.bool true) := by
  refine pcall_of_wp draws (fn := Tryz.f6) (n := 77) (rs := [.tmp 4]) (by kernel_rfl) rfl rfl rfl ok6 (Nat.le_of_ble_eq_true rfl) ?_
  simp (maxSteps := 400000) only [H6, W_drawH, go_sem, simprocAttr]
  (first | refine WF_pure (cValid09 s) rfl ?_ | refine WDQ_pure (cValid09 s) rfl ?_)
  simp (maxSteps := 400000) only [H6, W_drawH, go_sem, simprocAttr]
  cases h0 : ((hrCheck s).2.2 == 0)
  · have h0' : (hrCheck s).2.2 ≠ 0 := by simpa using h0
    have hb := shop_bad h0' oneX
    have h1 : ((hrRateR s oneX).2 != 0) = true := by rw [hb]; simpa using h0'
    simp (maxSteps := 400000) only [H6, W_drawH, go_sem, simprocAttr]
    (first | refine WF_pure (cOne) rfl ?_ | refine WDQ_pure (cOne) rfl ?_)
    simp (maxSteps := 400000) only [H6, W_drawH, go_sem, simprocAttr]
    (first | refine WF_pure (cRate s oneX) rfl ?_ | refine WDQ_pure (cRate s oneX) rfl ?_)
    simp (maxSteps := 400000) only [H6, W_drawH, h1, go_sem, simprocAttr]
    (first | refine WF_pure (cAwake) rfl ?_ | refine WDQ_pure (cAwake) rfl ?_)
    simp (maxSteps := 400000) only [H6, W_drawH, go_sem, simprocAttr]
  have h0' : (hrCheck s).2.2 = 0 := by simpa using h0
  have hk := hrCheck_kinds h0'
  have hxr := hx.rate
  simp (maxSteps := 400000) only [H6, W_drawH, go_sem, simprocAttr]
  (first | refine WF_pure (cScaled s x hk.2.2 hk.1 hx) rfl ?_ | refine WDQ_pure (cScaled s x hk.2.2 hk.1 hx) rfl ?_)
  simp (maxSteps := 400000) only [H6, W_drawH, go_sem, simprocAttr]
  cases h2 : decide (((scaled s.kinds.length x).marks.length : Int) < 2)
  rotate_left
  · simp (maxSteps := 400000) only [H6, W_drawH, go_sem, simprocAttr]
    (first | refine WF_pure (cAwake) rfl ?_ | refine WDQ_pure (cAwake) rfl ?_)
    simp (maxSteps := 400000) only [H6, W_drawH, go_sem, simprocAttr]
  have h2' : 2 ≤ (scaled s.kinds.length x).marks.length := by simp at h2; omega
  have hok := scaled_ok hx h2'
  have hte := testErr_of hok (scaled_kind (x := x) (show (0:Int) < s.kinds.length by omega))
  have hW := fun m hm => ((scaled_marks (nk := s.kinds.length) hx).1 m hm).1
  have hp := weighs_poss hok rfl hW
  have hr := weighs_rate hok rfl hW (by unfold truRate; omega)
  have m3 : x.rate.tmod 600000000 = truRate x := Int.tmod_eq_emod_of_nonneg hxr.1
  have w3 : IntKind.i64.wrap x.rate = x.rate := wrap_in (by omega) (by omega)
  have w8 : IntKind.i64.wrap (truRate x) = truRate x := by unfold truRate; exact wrap_in (by omega) (by omega)
  simp (maxSteps := 400000) only [H6, W_drawH, go_sem, simprocAttr]
  (first | refine WF_pure (cRate s (scaled s.kinds.length x)) rfl ?_ | refine WDQ_pure (cRate s (scaled s.kinds.length x)) rfl ?_)
  simp (maxSteps := 400000) only [H6, W_drawH, go_sem, simprocAttr]
  (first | refine WF_pure (cOdd s (scaled s.kinds.length x)) rfl ?_ | refine WDQ_pure (cOdd s (scaled s.kinds.length x)) rfl ?_)
  have ho : hrOdd (scaled s.kinds.length x) = [] := by rw [hrOdd, if_pos hp]
  have d1 : decide ((hrRate (scaled s.kinds.length x)).1.lo ≤ truRate x) = true := by simpa using hr.1
  have d2 : decide (truRate x ≤ (hrRate (scaled s.kinds.length x)).1.hi) = true := by simpa using hr.2
  simp (maxSteps := 400000) only [H6, W_drawH, m3, w3, w8, rateR_good h0' hte hp, oddR_good h0' hte, ho, nums, d1, d2, go_sem, simprocAttr]
  (first | refine WF_pure (cAwake) rfl ?_ | refine WDQ_pure (cAwake) rfl ?_)
  simp (maxSteps := 400000) only [H6, W_drawH, go_sem, simprocAttr]

/-! one wrong mark -/
def wrongT (t : HrTest) (k : Nat) (m : HrMark) : HrTest := { t with marks := t.marks.set k m }
theorem wrongT_wo (t : HrTest) (k : Nat) (m : HrMark) : wo (wrongT t k m) k = wo t k := by
  simp only [wo, wrongT]
  rw [List.eraseIdx_set_eq]
theorem pairwise_set {R : HrMark → HrMark → Prop} : ∀ {l : List HrMark} {k : Nat} {m m' : HrMark}, l.Pairwise R → l[k]? = some m → (∀ x, R x m → R x m') → (∀ x, R m x → R m' x) → (l.set k m').Pairwise R
  | [], _, _, _, h, hk, _, _ => by simp at hk
  | y :: l, 0, m, m', h, hk, h1, h2 => by
    simp at hk; subst hk
    rw [List.pairwise_cons] at h
    rw [List.set_cons_zero, List.pairwise_cons]
    exact ⟨fun x hx => h2 x (h.1 x hx), h.2⟩
  | y :: l, k + 1, m, m', h, hk, h1, h2 => by
    rw [List.pairwise_cons] at h
    simp only [List.getElem?_cons_succ] at hk
    rw [List.set_cons_succ, List.pairwise_cons]
    refine ⟨fun x hx => ?_, pairwise_set h.2 hk h1 h2⟩
    rcases List.mem_or_eq_of_mem_set hx with hx | rfl
    · exact h.1 x hx
    · exact h1 y (h.1 m (List.mem_of_getElem? hk))
theorem wrongT_ok {t : HrTest} (hok : TestOk t) {k : Nat} {m : HrMark} {w : Int} (hk : t.marks[k]? = some m) (hw : 0 ≤ w ∧ w ≤ 10000000) : TestOk (wrongT t k ⟨m.minute, w⟩) := by
  refine ⟨⟨by simp only [wrongT, List.length_set]; exact hok.len, fun q hq => ?_, hok.err⟩, by simp only [wrongT, List.length_set]; exact hok.two, ?_⟩
  · rcases List.mem_or_eq_of_mem_set hq with h | rfl
    · exact hok.all q h
    · have := hok.all m (List.mem_of_getElem? hk)
      dsimp only
      omega
  · exact pairwise_set hok.sorted hk (fun _ h => h) (fun _ h => h)
/-- the odd marks are those without which the test is possible -/
theorem oddGo_mem (t : HrTest) : ∀ (l : List HrMark) (i : Nat) (n : Int), n ∈ oddGo t i l ↔ ∃ j : Nat, n = (j : Int) ∧ i ≤ j ∧ j < i + l.length ∧ poss (wo t j) = true
  | [], i, n => by simp [oddGo]; intro j _ h1 h2; omega
  | m :: l, i, n => by
    rw [oddGo, List.mem_append, oddGo_mem t l (i + 1) n]
    constructor
    · rintro (h | ⟨j, rfl, h1, h2, h3⟩)
      · split at h
        · rename_i hp
          exact ⟨i, by simpa using h, Nat.le_refl _, by simp, hp⟩
        · cases h
      · exact ⟨j, rfl, by omega, by simp; omega, h3⟩
    · rintro ⟨j, rfl, h1, h2, h3⟩
      rcases Nat.eq_or_lt_of_le h1 with rfl | h
      · rw [if_pos h3]; exact .inl (by simp)
      · exact .inr ⟨j, rfl, h, by simp at h2; omega, h3⟩
def u32x2 (a b : Int) : PV := .agg [.int .u32 a, .int .u32 b]
attribute [go_sem] u32x2
set_option maxHeartbeats 8000000 in
theorem lHourOdd (s : HrShop) (x : Burnt) (a b : Int) (hx : BurntOk x) (ha : 0 ≤ a ∧ a ≤ 4294967295) (hb : 0 ≤ b ∧ b ≤ 4294967295) : PCall Tryz.prog 10 [s.pv, x.pv, u32x2 a b] (.bool true) := by
  refine pcall_of_wp draws (fn := Tryz.f10) (n := 133) (rs := [.tmp 6]) (by kernel_rfl) rfl rfl rfl ok10 (Nat.le_of_ble_eq_true rfl) ?_
  simp (maxSteps := 400000) only [H10, W_drawH, go_sem, simprocAttr]
  (first | refine WF_pure (cValid09 s) rfl ?_ | refine WDQ_pure (cValid09 s) rfl ?_)
  simp (maxSteps := 400000) only [H10, W_drawH, go_sem, simprocAttr]
  cases h0 : ((hrCheck s).2.2 == 0)
  · simp (maxSteps := 400000) only [H10, W_drawH, go_sem, simprocAttr]
    (first | refine WF_pure (cAwake) rfl ?_ | refine WDQ_pure (cAwake) rfl ?_)
    simp (maxSteps := 400000) only [H10, W_drawH, go_sem, simprocAttr]
  have h0' : (hrCheck s).2.2 = 0 := by simpa using h0
  have hk := hrCheck_kinds h0'
  simp (maxSteps := 400000) only [H10, W_drawH, go_sem, simprocAttr]
  (first | refine WF_pure (cScaled s x hk.2.2 hk.1 hx) rfl ?_ | refine WDQ_pure (cScaled s x hk.2.2 hk.1 hx) rfl ?_)
  simp (maxSteps := 400000) only [H10, W_drawH, go_sem, simprocAttr]
  cases h2 : decide (((scaled s.kinds.length x).marks.length : Int) < 4)
  rotate_left
  · simp (maxSteps := 400000) only [H10, W_drawH, go_sem, simprocAttr]
    (first | refine WF_pure (cAwake) rfl ?_ | refine WDQ_pure (cAwake) rfl ?_)
    simp (maxSteps := 400000) only [H10, W_drawH, go_sem, simprocAttr]
  have h4 : 4 ≤ (scaled s.kinds.length x).marks.length := by simp at h2; omega
  have hok := scaled_ok hx (show 2 ≤ (scaled s.kinds.length x).marks.length by omega)
  have hkd := scaled_kind (x := x) (show (0:Int) < s.kinds.length by omega)
  have hW := fun m hm => ((scaled_marks (nk := s.kinds.length) hx).1 m hm).1
  have hE : (scaled s.kinds.length x).error = truErr x := rfl
  generalize scaled s.kinds.length x = t at h2 h4 hok hkd hW hE ⊢
  have hne : ¬ (t.marks.length : Int) = 0 := by omega
  have m1 : a.tmod (t.marks.length : Int) = a % (t.marks.length : Int) := Int.tmod_eq_emod_of_nonneg ha.1
  have m2 : b.tmod 10000001 = b % 10000001 := Int.tmod_eq_emod_of_nonneg hb.1
  have hi0 := Int.emod_nonneg a hne
  have hi1 := Int.emod_lt_of_pos a (show 0 < (t.marks.length : Int) by omega)
  obtain ⟨k, hkk⟩ : ∃ k : Nat, a % (t.marks.length : Int) = (k : Int) := ⟨_, (Int.toNat_of_nonneg hi0).symm⟩
  have hkl : k < t.marks.length := by omega
  obtain ⟨m, hm⟩ : ∃ m, t.marks[k]? = some m := ⟨_, List.getElem?_eq_getElem hkl⟩
  rw [hkk] at m1
  have w1 : IntKind.i64.wrap a = a := wrap_in (by omega) (by omega)
  have w2 : IntKind.i64.wrap b = b := wrap_in (by omega) (by omega)
  have hkl' : (k : Int) < (t.marks.length : Int) := by omega
  have hlen := hok.len
  have hrm : t.marks.length ≤ room := by simp [room]; omega
  have hw := wrongT_ok hok hm (w := b % 10000001) (by omega)
  have hmm : (t.marks.map HrMark.pv).map AV.p = t.marks.map markC := by simp [markC]
  have hne2 : ¬ t.marks.map markC = [] := by intro h; have := congrArg List.length h; simp at this; rw [this] at h4; simp at h4
  have w3 : IntKind.i64.wrap (b % 10000001) = b % 10000001 := wrap_in (by omega) (by omega)
  have hset : (t.marks.map markC).set k (.p (.agg [.int .i64 m.minute, .int .i64 (b % 10000001)])) = (wrongT t k ⟨m.minute, b % 10000001⟩).marks.map markC := by
    simp only [wrongT, List.map_set]; rfl
  have hte := testErr_of hw (nk := s.kinds.length) hkd
  have hwo : wo (wrongT t k ⟨m.minute, b % 10000001⟩) k = wo t k := wrongT_wo t k _
  have hpk : poss (wo t k) = true := weighs_poss (wo_ok hok (by omega)) hE fun q hq => hW q ((List.eraseIdx_sublist ..).subset hq)
  rw [← hwo] at hpk
  have hwl : (wrongT t k ⟨m.minute, b % 10000001⟩).marks.length = t.marks.length := by simp [wrongT]
  have hTk : (wrongT t k ⟨m.minute, b % 10000001⟩).kind = t.kind := rfl
  have hTe : (wrongT t k ⟨m.minute, b % 10000001⟩).error = t.error := rfl
  have hpv : HrTest.pv (wrongT t k ⟨m.minute, b % 10000001⟩) = .agg [.int .i64 t.kind, .int .i64 t.error, .slice 2 ((wrongT t k ⟨m.minute, b % 10000001⟩).marks.map HrMark.pv) false] := rfl
  have hkd' : (wrongT t k ⟨m.minute, b % 10000001⟩).kind = t.kind := rfl
  simp (maxSteps := 400000) only [H10, W_drawH, hne, m1, m2, w1, w2, w3, hkl', hrm, hmm, hne2, if_neg hne2, hm, hset, go_sem, simprocAttr]
  generalize wrongT t k ⟨m.minute, b % 10000001⟩ = u at hw hte hpk hwl hpv hTk hTe ⊢
  have hfz : ∀ n h (ms : List HrMark), frzList (frzN n h) (ms.map markC) = some (ms.map HrMark.pv) := fun n h ms => frzList_map (frzN_p n h) HrMark.pv ms
  have htk : List.take t.marks.length (u.marks.map HrMark.pv) = u.marks.map HrMark.pv := List.take_of_length_le (by simp; omega)
  refine WF_new (nOdd s u) ?_ ?_
  · simp (maxSteps := 400000) only [hfz, htk, hTk, hTe, hwl, go_sem, simprocAttr]
  simp (maxSteps := 400000) only [H10, W_drawH, go_sem, simprocAttr]
  refine WF_frz (cRate s u) ?_ (.tuple ?_) ?_
  · simp (maxSteps := 400000) only [hfz, htk, hTk, hTe, hwl, go_sem, simprocAttr]
  · exact Flat.cons (.agg (Flat.cons (.int _ _) (Flat.cons (.int _ _) Flat.nil))) (Flat.cons (.int _ _) Flat.nil)
  have ho := oddR_good h0' hte
  have hop := openS_of h0' hte
  cases hp : poss u
  rotate_left
  · have hv : oddV s u = .nilslice := by rw [oddV, if_neg (fun h => by rw [hp] at h; cases h.2)]
    simp (maxSteps := 400000) only [H10, W_drawH, ho, rateR_good h0' hte hp, hv, go_sem, simprocAttr]
    refine W_loopA [3, 7, 8, 10, 13] (σ := Unit) (fun _ => True) (fun _ => 0) (fun _ => [(14, .p (.bool false)), (15, .p (.int .i64 0))])
      (fun _ => [.row 3 [.p s.pv], .row 6 [.p x.pv], .row 2 [.p (.agg [.int .u32 a, .int .u32 b])], .row 3 [.agg [.p (.int .i64 t.kind), .p (.int .i64 t.error), .slice 4 t.marks.length 0 t.marks.length]], .row 2 (u.marks.map markC), .row 2 [.p (hrRate u).1.pv]]) () trivial ?_ ?_
    · simp (maxSteps := 400000) only [go_sem, simprocAttr]
    rintro ⟨⟩ _
    simp (maxSteps := 400000) only [H10, W_drawH, go_sem, simprocAttr]
    (first | refine WF_pure (cAwake) rfl ?_ | refine WDQ_pure (cAwake) rfl ?_)
    simp (maxSteps := 400000) only [H10, W_drawH, go_sem, simprocAttr]
  have hv : oddV s u = nums (oddGo u 0 u.marks) := by rw [oddV, if_pos ⟨hop, hp⟩, hrOdd, if_neg (by rw [hp]; decide)]
  have hmem := oddGo_mem u u.marks 0
  have hkm : ((k : Nat) : Int) ∈ oddGo u 0 u.marks := (hmem k).2 ⟨k, rfl, by omega, by omega, hpk⟩
  have hlen0 : (oddGo u 0 u.marks).length ≤ u.marks.length := by
    have : ∀ (l : List HrMark) (i : Nat), (oddGo u i l).length ≤ l.length := by
      intro l
      induction l with
      | nil => intro i; simp [oddGo]
      | cons q l ih => intro i; have := ih (i + 1); rw [oddGo]; split <;> simp <;> omega
    exact this _ _
  generalize oddGo u 0 u.marks = L at hv hmem hkm hlen0
  simp (maxSteps := 400000) only [H10, W_drawH, hwl, ho, rateR_down h0' hte hp, hv, nums, go_sem, simprocAttr]
  refine W_loopA [3, 7, 8, 10, 13] (σ := List Int × List Int × Bool) (fun q => L = q.1 ++ q.2.1 ∧ (q.2.2 || q.2.1.any (fun n => n == (k : Int))) = true) (fun q => q.2.1.length) (fun q => [(14, .p (.bool q.2.2)), (15, .p (.int .i64 q.1.length))])
    (fun _ => [.row 3 [.p s.pv], .row 6 [.p x.pv], .row 2 [.p (.agg [.int .u32 a, .int .u32 b])], .row 3 [.agg [.p (.int .i64 t.kind), .p (.int .i64 t.error), .slice 4 t.marks.length 0 t.marks.length]], .row 2 (u.marks.map markC), .row 2 [.p (.agg [.int .i64 0, .int .i64 0])]]) ([], L, false) ⟨rfl, by rw [Bool.false_or, List.any_eq_true]; exact ⟨_, hkm, by simp⟩⟩ ?_ ?_
  · simp (maxSteps := 400000) only [go_sem, simprocAttr]
  rintro ⟨done, rest, fnd⟩ ⟨e1, e2⟩
  dsimp only at e1 e2
  cases rest with
  | nil =>
    have hlt : ¬ ((done.length : Int) < (L.length : Int)) := by rw [e1]; simp
    rw [List.any_nil, Bool.or_false] at e2
    simp (maxSteps := 400000) only [H10, W_drawH, hlt, decide_false, e2, go_sem, simprocAttr]
    (first | refine WF_pure (cAwake) rfl ?_ | refine WDQ_pure (cAwake) rfl ?_)
    simp (maxSteps := 400000) only [H10, W_drawH, go_sem, simprocAttr]
  | cons n r =>
    obtain ⟨hx', hlt⟩ := list_at e1
    have hdl := congrArg List.length e1
    simp only [List.length_append, List.length_cons] at hdl
    have hnx : IntKind.i64.wrap ((done.length : Int) + 1) = (((done ++ [n]).length : Nat) : Int) := wrap_add (by omega) (by simp [room]; omega) (by simp)
    obtain ⟨j, rfl, _, hj, hpj⟩ := (hmem n).1 (by rw [e1]; simp)
    have d1 : decide (((j : Nat) : Int) < 0) = false := by simp
    have d2 : decide ((t.marks.length : Int) ≤ ((j : Nat) : Int)) = false := by simp; omega
    have huw := wo_ok hw (i := j) (by omega)
    have hteu := testErr_of huw (nk := s.kinds.length) (show 0 ≤ (wo u j).kind ∧ (wo u j).kind < s.kinds.length from by rw [show (wo u j).kind = u.kind from rfl, hTk]; exact hkd)
    rw [List.any_cons, ← Bool.or_assoc] at e2
    simp (maxSteps := 400000) only [H10, W_drawH, hlt, decide_true, hx', d1, d2, hwl, go_sem, simprocAttr]
    refine WDQ_new (nRefWithout u j (by omega) hw.two hw.len) ?_ ?_
    · simp (maxSteps := 400000) only [hfz, htk, hTk, hTe, hwl, go_sem, simprocAttr]
    simp (maxSteps := 400000) only [H10, W_drawH, go_sem, simprocAttr]
    (first | refine WF_pure (cRate s (wo u j)) rfl ?_ | refine WDQ_pure (cRate s (wo u j)) rfl ?_)
    simp (maxSteps := 400000) only [H10, W_drawH, rateR_good h0' hteu hpj, hlt, hx', go_sem, simprocAttr]
    cases fnd
    · simp (maxSteps := 400000) only [H10, W_drawH, hlt, hx', go_sem, simprocAttr]
      refine WQ_headA (done ++ [(j : Int)], r, (j : Int) == (k : Int)) ⟨by rw [e1]; simp, by simpa using e2⟩ (Nat.lt_succ_self _) ?_
      simp (maxSteps := 400000) only [H10, W_drawH, hnx, go_sem, simprocAttr]
    · simp (maxSteps := 400000) only [H10, W_drawH, hlt, hx', go_sem, simprocAttr]
      refine WQ_headA (done ++ [(j : Int)], r, true) ⟨by rw [e1]; simp, by rw [Bool.true_or]⟩ (Nat.lt_succ_self _) ?_
      simp (maxSteps := 400000) only [H10, W_drawH, hnx, go_sem, simprocAttr]
end Abs
end Go.Proofs.YtdellinghbppgaaGreatDoor
