/-
  CONTRACTS: the helpers of the laws of layer 9: the examples, and that they are answered as the document says. No conditions but those in the theorems' heads.
-/
import Derived.Test.YtdellinghbppgaaGreatDoorHrRnd
namespace Go.Proofs.YtdellinghbppgaaGreatDoor
namespace Abs
set_option linter.unusedSimpArgs false
set_option linter.unusedVariables false
set_option maxRecDepth 100000

/-! what is read, as a test -/
theorem readPV_pl (t : HrTest) : PL (readPV t) t.pv := by
  cases t with
  | mk k e ms =>
    cases ms with
    | nil => exact nilTest k e
    | cons m ms => exact .refl _
theorem cRead (s : HrShop) (all : List UInt8) : PCall Tryz.prog 19 [s.pv, .str (bs all)] (.tuple [(hrReadH s all).1.pv, .int .i64 (hrReadH s all).2]) :=
  (cReadH0 s all).lessD (PL.tupleL ⟨readPV_pl _, .refl _, trivial⟩)
theorem cRefRead (s : HrShop) (all : List UInt8) : PCall Tryz.prog 20 [s.pv, .str (bs all)] (.tuple [(hrReadH s all).1.pv, .int .i64 (hrReadH s all).2]) := by
  rw [read_same]
  exact (cRefRead0 s all).lessD (PL.tupleL ⟨readPV_pl _, .refl _, trivial⟩)

/-! lists that are equal -/
theorem cNumsEq (a c : List Int) (b1 b2 : Bool) (ha : a.length < 1000000000) : PCall Tryz.prog 29 [.slice 1 (a.map intPV) b1, .slice 1 (c.map intPV) b2] (.bool (a == c)) := by
  refine pcall_of_wp draws (fn := Tryz.f29) (n := 26) (rs := [.tmp 4]) (by kernel_rfl) rfl rfl rfl ok29 (Nat.le_of_ble_eq_true rfl) ?_
  simp (maxSteps := 400000) only [go_sem, simprocAttr]
  refine WB_split (fun hb => ?_) (fun hb => ?_) <;> simp (maxSteps := 400000) only [hb, go_sem, simprocAttr]
  · have : ¬ (a = c) := fun h => by subst h; simp at hb
    simp [this]
  have hlen : a.length = c.length := by simp [bne] at hb; omega
  refine W_rangeH [0, 1] a ha (τ := Unit) (fun done rest _ => c.take done.length = done) (fun done _ => [(5, .p (.int .i64 done.length))]) () (by simp) ?_ ?_ ?_
  · simp (maxSteps := 400000) only [go_sem, simprocAttr] <;> simp
  · intro _ e2
    rw [List.take_of_length_le (by omega)] at e2
    subst e2
    simp (maxSteps := 400000) only [go_sem, simprocAttr]
    simp
  · intro done x rest _ e1 e2 hx hlt hnx
    have hlt2 : (done.length : Int) < (c.length : Int) := by omega
    obtain ⟨y, hy⟩ : ∃ y, c[done.length]? = some y := ⟨_, List.getElem?_eq_getElem (by omega)⟩
    simp (maxSteps := 400000) only [hlt, hlt2, hx, hy, go_sem, simprocAttr]
    refine WB_split (fun hb => ?_) (fun hb => ?_) <;> simp (maxSteps := 400000) only [hb, go_sem, simprocAttr]
    · have : ¬ (a = c) := fun h => by
        subst h
        rw [hx] at hy; cases hy; simp at hb
      simp [this]
    · have hxy : x = y := by simpa using hb
      refine WQ_next e1 () (by rw [List.length_append, List.length_singleton, List.take_add_one, e2, hy, hxy]; rfl) ?_
      simp (maxSteps := 400000) only [hnx, go_sem, simprocAttr]

/-! the examples -/
theorem cSpan09 (a b : Int) : PCall Tryz.prog 30 [.int .i64 a, .int .i64 b] (.agg [.int .i64 a, .int .i64 b]) := by
  refine pcall_of_wp draws (fn := Tryz.f30) (n := 8) (rs := [.cell 4 47]) (by kernel_rfl) rfl rfl rfl ok30 (Nat.le_of_ble_eq_true rfl) ?_
  simp (maxSteps := 400000) only [go_sem, simprocAttr]
def shopX : HrShop := ⟨[⟨⟨#[97, 108, 116, 97, 114]⟩, ⟨100000, 101000⟩, 1000⟩], [⟨⟨#[99, 104, 117, 114, 99, 104]⟩, ⟨1200, 2000⟩, ⟨90000, 110000⟩⟩, ⟨⟨#[108, 97, 109, 112]⟩, ⟨1400, 2000⟩, ⟨0, 10000000⟩⟩], 100⟩
def oneX : HrTest := ⟨0, 50, [⟨0, 100500⟩, ⟨60, 96500⟩, ⟨120, 92400⟩]⟩
def twoX : HrTest := ⟨0, 50, [⟨0, 100000⟩, ⟨60, 96000⟩, ⟨120, 91000⟩, ⟨180, 88000⟩]⟩
theorem pl_refls09 : ∀ l : List PV, PLs l l
  | [] => trivial
  | x :: l => ⟨.refl x, pl_refls09 l⟩
theorem cShop : PCall Tryz.prog 23 [] shopX.pv := by
  refine PCall.lessD (q := .agg [.slice 4 (shopX.kinds.map HrKind.pv) true, .slice 5 (shopX.rules.map HrRule.pv) true, .int .i64 100]) ?_ (PL.aggL rfl ⟨PL.sliceL rfl (pl_refls09 _), PL.sliceL rfl (pl_refls09 _), .refl _, trivial⟩)
  refine pcall_of_wp draws (fn := Tryz.f23) (n := 12) (rs := [.cell 0 25]) (by kernel_rfl) rfl rfl rfl ok23 (Nat.le_of_ble_eq_true rfl) ?_
  simp (maxSteps := 400000) only [go_sem, simprocAttr]
  repeat' (refine WF_pure (cSpan09 _ _) rfl ?_; simp (maxSteps := 400000) only [go_sem, simprocAttr])
  exact ⟨rfl, rfl⟩
def markL : List Int → List HrMark
  | a :: b :: r => ⟨a, b⟩ :: markL r
  | _ => []
theorem markL_len : ∀ (k : Nat) (l : List Int), l.length ≤ k → (markL l).length ≤ k
  | 0, l, h => by
    have : l = [] := List.length_eq_zero_iff.1 (by omega)
    subst this; simp [markL]
  | k + 1, l, h => by
    match l with
    | [] => simp [markL]
    | [a] => simp [markL]
    | a :: b :: r =>
      have := markL_len k r (by simp at h; omega)
      simp [markL]; omega
theorem cMarks (l : List Int) (b : Bool) (hl : l.length < 1000000) : PCall Tryz.prog 71 [.slice 1 (l.map intPV) b] (.slice 2 ((markL l).map HrMark.pv) false) := by
  refine pcall_of_wp_frzN draws (fn := Tryz.f71) (n := 26) (rs := [.tmp 2]) (by kernel_rfl) rfl rfl rfl ok71 (Nat.le_of_ble_eq_true rfl) ?_
  simp (maxSteps := 400000) only [go_sem, simprocAttr]
  refine W_loop_nil 3 2 (by simp (maxSteps := 400000) only [go_sem, simprocAttr]) ?_
  simp (maxSteps := 400000) only [go_sem, simprocAttr]
  refine W_loopA [0] (σ := List Int × List Int × List HrMark) (fun q => l = q.1 ++ q.2.1 ∧ markL l = q.2.2 ++ markL q.2.1 ∧ q.2.2.length ≤ q.1.length) (fun q => q.2.1.length)
    (fun q => [(3, .slice 0 q.2.2.length 0 q.2.2.length), (4, .p (.int .i64 q.1.length))]) (fun q => [.row 2 (q.2.2.map markC)]) ([], l, []) ⟨rfl, rfl, Nat.le_refl _⟩ ?_ ?_
  · simp (maxSteps := 400000) only [go_sem, simprocAttr]
  rintro ⟨done, rest, acc⟩ ⟨e1, e2, e3⟩
  dsimp only at e1 e2 e3
  have hlen := congrArg List.length e1
  simp only [List.length_append] at hlen
  have hn1 : IntKind.i64.wrap ((done.length : Int) + 1) = ((done.length + 1 : Nat) : Int) := wrap_add (by omega) (by simp [room]; omega) (by omega)
  have hn2 : IntKind.i64.wrap ((done.length : Int) + 2) = ((done.length + 2 : Nat) : Int) := wrap_add (by omega) (by simp [room]; omega) (by omega)
  have hfz : ∀ n h (ms : List HrMark), frzList (frzN n h) (ms.map markC) = some (ms.map HrMark.pv) := fun n h ms => frzList_map (frzN_p n h) HrMark.pv ms
  match rest with
  | [] =>
    have hlt : decide ((((done.length + 1 : Nat)) : Int) < (l.length : Int)) = false := by simp at hlen ⊢; omega
    rw [show markL [] = [] from rfl, List.append_nil] at e2
    simp (maxSteps := 400000) only [hn1, hlt, hfz, e2, take_map_len, go_sem, simprocAttr]
  | [a] =>
    have hlt : decide ((((done.length + 1 : Nat)) : Int) < (l.length : Int)) = false := by simp at hlen ⊢; omega
    rw [show markL [a] = [] from rfl, List.append_nil] at e2
    simp (maxSteps := 400000) only [hn1, hlt, hfz, e2, take_map_len, go_sem, simprocAttr]
  | a :: b' :: r =>
    simp only [List.length_cons] at hlen
    have hlt : decide ((((done.length + 1 : Nat)) : Int) < (l.length : Int)) = true := by simp; omega
    have hx1 : l[done.length]? = some a := by rw [e1]; simp
    have hx2 : l[done.length + 1]? = some b' := by rw [e1]; simp
    have hl1 : (done.length : Int) < (l.length : Int) := by omega
    have hl2 : ((done.length + 1 : Nat) : Int) < (l.length : Int) := by omega
    have hrm : acc.length + 1 ≤ room := by simp [room]; omega
    rw [show markL (a :: b' :: r) = ⟨a, b'⟩ :: markL r from rfl] at e2
    simp (maxSteps := 400000) only [hn1, hlt, hx1, hx2, hl1, hl2, hrm, go_sem, simprocAttr]
    refine WQ_headA (done ++ [a, b'], r, acc ++ [⟨a, b'⟩]) ⟨by rw [e1]; simp, by rw [e2]; simp, by simp; omega⟩ (by simp; omega) ?_
    simp (maxSteps := 400000) only [hn2, List.length_append, List.map_append, go_sem, simprocAttr]

theorem cOne : PCall Tryz.prog 24 [] oneX.pv := by
  refine pcall_of_wp draws (fn := Tryz.f24) (n := 4) (rs := [.cell 0 33]) (by kernel_rfl) rfl rfl rfl ok24 (Nat.le_of_ble_eq_true rfl) ?_
  simp (maxSteps := 400000) only [go_sem, simprocAttr]
  refine WF_pure (cMarks [0, 100500, 60, 96500, 120, 92400] true (by decide)) rfl ?_
  simp (maxSteps := 400000) only [go_sem, simprocAttr]
  exact ⟨rfl, rfl, rfl⟩
theorem cTwo : PCall Tryz.prog 26 [] twoX.pv := by
  refine pcall_of_wp draws (fn := Tryz.f26) (n := 4) (rs := [.cell 0 33]) (by kernel_rfl) rfl rfl rfl ok26 (Nat.le_of_ble_eq_true rfl) ?_
  simp (maxSteps := 400000) only [go_sem, simprocAttr]
  refine WF_pure (cMarks [0, 100000, 60, 96000, 120, 91000, 180, 88000] true (by decide)) rfl ?_
  simp (maxSteps := 400000) only [go_sem, simprocAttr]
  exact ⟨rfl, rfl, rfl⟩
def textX : List UInt8 := "test altar 50\n0 100500\n60 96500\n120 92400\n".toUTF8.data.toList
theorem ok51 : fnOk H0 Tryz.f51 = true := by kernel_rfl
theorem cTextX : PCall Tryz.prog 51 [] (.str (bs textX)) := by
  refine pcall_of_wp draws (fn := Tryz.f51) (n := 1) (rs := [.tmp 0]) (by kernel_rfl) rfl rfl rfl ok51 (Nat.le_of_ble_eq_true rfl) ?_
  simp (maxSteps := 400000) only [go_sem, simprocAttr]
  rfl
theorem cValid09 (s : HrShop) : PCall Tryz.prog 31 [s.pv] (.bool ((hrCheck s).2.2 == 0)) := by
  refine pcall_of_wp draws (fn := Tryz.f31) (n := 14) (rs := [.tmp 2]) (by kernel_rfl) rfl rfl rfl ok31 (Nat.le_of_ble_eq_true rfl) ?_
  simp (maxSteps := 400000) only [go_sem, simprocAttr]
  (first | refine WF_pure (cRefHrCheck s) rfl ?_ | refine WDQ_pure (cRefHrCheck s) rfl ?_)
  simp (maxSteps := 400000) only [triple, go_sem, simprocAttr]
def amongS (s : Span) (n : Int) : Int := s.lo + n % (s.hi - s.lo + 1)
theorem amongS_in {s : Span} (h : s.lo ≤ s.hi) (n : Int) : s.lo ≤ amongS s n ∧ amongS s n ≤ s.hi := by
  have h1 := Int.emod_nonneg n (show s.hi - s.lo + 1 ≠ 0 by omega)
  have h2 := Int.emod_lt_of_pos n (show 0 < s.hi - s.lo + 1 by omega)
  unfold amongS; omega
theorem cAmong09 (s : Span) (n : Int) (hs : -1000000000000 ≤ s.lo ∧ s.lo ≤ s.hi ∧ s.hi ≤ 1000000000000) (hn : 0 ≤ n) : PCall Tryz.prog 40 [s.pv, .int .i64 n] (.int .i64 (amongS s n)) := by
  refine pcall_of_wp draws (fn := Tryz.f40) (n := 16) (rs := [.tmp 4]) (by kernel_rfl) rfl rfl rfl ok40 (Nat.le_of_ble_eq_true rfl) ?_
  have h1 := Int.emod_nonneg n (show s.hi - s.lo + 1 ≠ 0 by omega)
  have h2 := Int.emod_lt_of_pos n (show 0 < s.hi - s.lo + 1 by omega)
  have w1 : IntKind.i64.wrap (s.hi - s.lo) = s.hi - s.lo := wrap_in (by omega) (by omega)
  have w2 : IntKind.i64.wrap (s.hi - s.lo + 1) = s.hi - s.lo + 1 := wrap_in (by omega) (by omega)
  have hm : n.tmod (s.hi - s.lo + 1) = n % (s.hi - s.lo + 1) := Int.tmod_eq_emod_of_nonneg hn
  have hne : ¬ s.hi - s.lo + 1 = 0 := by omega
  have w3 : IntKind.i64.wrap (s.lo + n % (s.hi - s.lo + 1)) = s.lo + n % (s.hi - s.lo + 1) := wrap_in (by omega) (by omega)
  simp (maxSteps := 400000) only [Span.pv, w1, w2, hm, hne, w3, amongS, go_sem, simprocAttr]

/-! the examples' answers -/
theorem tests_true (l : List HrTest) (b : Bool) : PL (.slice 3 (l.map HrTest.pv) b) (.slice 3 (l.map HrTest.pv) false) := by
  cases b with
  | false => exact .refl _
  | true =>
    refine .slice rfl (fun y hy => ?_) fun i q c h1 h2 => ?_
    · obtain ⟨t, _, rfl⟩ := List.mem_map.1 hy
      refine ⟨rfl, fun c hc => ?_⟩
      simp [HrTest.pv, PV.cells] at hc
      rcases hc with rfl | rfl | rfl <;> rfl
    · rw [h1] at h2; cases h2; exact .refl _
theorem boxes_true (l : List HrBox) (b : Bool) : PL (.slice 2 (l.map HrBox.pv) b) (.slice 2 (l.map HrBox.pv) false) := by
  cases b with
  | false => exact .refl _
  | true =>
    refine .slice rfl (fun y hy => ?_) fun i q c h1 h2 => ?_
    · obtain ⟨t, _, rfl⟩ := List.mem_map.1 hy
      refine ⟨rfl, fun c hc => ?_⟩
      simp [HrBox.pv, PV.cells] at hc
      rcases hc with rfl | rfl <;> rfl
    · rw [h1] at h2; cases h2; exact .refl _
theorem vRate1 : hrRateR shopX oneX = (⟨4000, 4100⟩, 0) := by kernel_rfl
theorem kRate1 : PCall Tryz.prog 32 [shopX.pv, oneX.pv] (.tuple [.agg [.int .i64 4000, .int .i64 4100], .int .i64 0]) := by
  have h := cRate shopX oneX
  rwa [vRate1] at h
theorem vRate2 : hrRateR shopX twoX = (⟨0, 0⟩, 9) := by kernel_rfl
theorem kRate2 : PCall Tryz.prog 32 [shopX.pv, twoX.pv] (.tuple [.agg [.int .i64 0, .int .i64 0], .int .i64 9]) := by
  have h := cRate shopX twoX
  rwa [vRate2] at h
theorem vOdd2 : hrOddR shopX twoX = ([2], 0) := by kernel_rfl
theorem kOdd2 : PCall Tryz.prog 22 [shopX.pv, twoX.pv] (.tuple [.slice 1 [.int .i64 2] false, .int .i64 0]) := by
  have h := cOdd shopX twoX
  rwa [vOdd2] at h
theorem vRates2 : hrRates shopX [oneX, twoX] 0 = (⟨3600, 4510⟩, 0) := by kernel_rfl
theorem kRates2 : PCall Tryz.prog 27 [shopX.pv, .slice 3 [oneX.pv, twoX.pv] true, .int .i64 0] (.tuple [.agg [.int .i64 3600, .int .i64 4510], .int .i64 0]) := by
  have h := (cRates shopX [oneX, twoX] 0).arglessD (args' := [shopX.pv, .slice 3 ([oneX, twoX].map HrTest.pv) true, .int .i64 0]) ⟨.refl _, tests_true _ true, .refl _, trivial⟩
  rwa [vRates2] at h
theorem vMinutes1 : hrMinutes shopX [oneX] 0 = (⟨1317, 1667⟩, 0) := by kernel_rfl
theorem kMinutes1 : PCall Tryz.prog 39 [shopX.pv, .slice 3 [oneX.pv] true, .int .i64 0] (.tuple [.agg [.int .i64 1317, .int .i64 1667], .int .i64 0]) := by
  have h := (cMinutes shopX [oneX] 0).arglessD (args' := [shopX.pv, .slice 3 ([oneX].map HrTest.pv) true, .int .i64 0]) ⟨.refl _, tests_true _ true, .refl _, trivial⟩
  rwa [vMinutes1] at h
theorem vPromise1 : hrPromise shopX [oneX] 0 = (21, 0) := by kernel_rfl
theorem kPromise1 : PCall Tryz.prog 38 [shopX.pv, .slice 3 [oneX.pv] true, .int .i64 0] (.tuple [.int .i64 21, .int .i64 0]) := by
  have h := (cPromise shopX [oneX] 0).arglessD (args' := [shopX.pv, .slice 3 ([oneX].map HrTest.pv) true, .int .i64 0]) ⟨.refl _, tests_true _ true, .refl _, trivial⟩
  rwa [vPromise1] at h
theorem vFits1 : hrFits shopX [oneX] 0 1 = (1, 0) := by kernel_rfl
theorem kFits1 : PCall Tryz.prog 28 [shopX.pv, .slice 3 [oneX.pv] true, .int .i64 0, .int .i64 1] (.tuple [.int .i64 1, .int .i64 0]) := by
  have h := (cFitsHr shopX [oneX] 0 1).arglessD (args' := [shopX.pv, .slice 3 ([oneX].map HrTest.pv) true, .int .i64 0, .int .i64 1]) ⟨.refl _, tests_true _ true, .refl _, .refl _, trivial⟩
  rwa [vFits1] at h
theorem vBroken1 : hrBroken shopX [oneX] [⟨0, 21⟩, ⟨0, 22⟩, ⟨0, 20⟩] = ([1], 0) := by kernel_rfl
theorem kBroken1 : PCall Tryz.prog 41 [shopX.pv, .slice 3 [oneX.pv] true, .slice 2 [.agg [.int .i64 0, .int .i64 21], .agg [.int .i64 0, .int .i64 22], .agg [.int .i64 0, .int .i64 20]] true] (.tuple [.slice 1 [.int .i64 1] false, .int .i64 0]) := by
  have h := (cBroken shopX [oneX] [⟨0, 21⟩, ⟨0, 22⟩, ⟨0, 20⟩]).arglessD (args' := [shopX.pv, .slice 3 ([oneX].map HrTest.pv) true, .slice 2 ([⟨0, 21⟩, ⟨0, 22⟩, ⟨0, 20⟩].map HrBox.pv) true]) ⟨.refl _, tests_true _ true, boxes_true _ true, trivial⟩
  rwa [vBroken1] at h
theorem vText1 : textL shopX oneX = textX := by
  simp [textL, shopX, oneX, lineL0, lineL, hdr, sp, nl, dec, Lib.decDigits]
  rfl
theorem vOpen1 : hrOpen shopX [oneX] = 0 := by kernel_rfl
theorem kWrite1 : PCall Tryz.prog 17 [shopX.pv, oneX.pv] (.tuple [.str (bs textX), .int .i64 0]) := by
  have h := cWrite shopX oneX
  rw [hrWrite, if_pos vOpen1, vText1] at h
  exact h
theorem kRead1 : PCall Tryz.prog 19 [shopX.pv, .str (bs textX)] (.tuple [oneX.pv, .int .i64 0]) := by
  have h := cRead shopX textX
  have ho := open_ok vOpen1
  rw [← vText1, read_text ho.1 ho.2, vText1] at h
  exact h
theorem kInts (a : List Int) (b1 b2 : Bool) (ha : a.length < 1000000000) : PCall Tryz.prog 29 [.slice 1 (a.map intPV) b1, .slice 1 (a.map intPV) b2] (.bool true) := by
  have := cNumsEq a a b1 b2 ha
  rwa [beq_self_eq_true] at this
theorem kEqual1 : PCall Tryz.prog 21 [oneX.pv, oneX.pv] (.bool true) := by
  have := cEqual oneX oneX (by decide)
  rwa [(eqT_iff _ _).2 rfl] at this
theorem textX_self : (bs textX == bs textX) = true := (baBeq _ _).2 rfl
set_option maxHeartbeats 4000000 in
theorem cAwake : PCall Tryz.prog 16 [] (.bool true) := by
  refine pcall_of_wp draws (fn := Tryz.f16) (n := 172) (rs := [.tmp 0]) (by kernel_rfl) rfl rfl rfl ok16 (Nat.le_of_ble_eq_true rfl) ?_
  simp (maxSteps := 400000) only [go_sem, simprocAttr]
  repeat' first
    | (refine WF_pure cShop rfl ?_; simp (maxSteps := 400000) only [go_sem, simprocAttr])
    | (refine WF_pure cOne rfl ?_; simp (maxSteps := 400000) only [go_sem, simprocAttr])
    | (refine WF_pure cTwo rfl ?_; simp (maxSteps := 400000) only [go_sem, simprocAttr])
    | (refine WF_pure kRate1 rfl ?_; simp (maxSteps := 400000) only [go_sem, simprocAttr])
    | (refine WF_pure kRate2 rfl ?_; simp (maxSteps := 400000) only [go_sem, simprocAttr])
    | (refine WF_pure kOdd2 rfl ?_; simp (maxSteps := 400000) only [go_sem, simprocAttr])
    | (refine WF_pure kRates2 rfl ?_; simp (maxSteps := 400000) only [go_sem, simprocAttr])
    | (refine WF_pure kMinutes1 rfl ?_; simp (maxSteps := 400000) only [go_sem, simprocAttr])
    | (refine WF_pure kPromise1 rfl ?_; simp (maxSteps := 400000) only [go_sem, simprocAttr])
    | (refine WF_pure kFits1 rfl ?_; simp (maxSteps := 400000) only [go_sem, simprocAttr])
    | (refine WF_pure kBroken1 rfl ?_; simp (maxSteps := 400000) only [go_sem, simprocAttr])
    | (refine WF_pure kWrite1 rfl ?_; simp (maxSteps := 400000) only [go_sem, simprocAttr])
    | (refine WF_pure kRead1 rfl ?_; simp (maxSteps := 400000) only [List.append_eq, go_sem, simprocAttr])
    | (refine WDQ_pure (cSpan09 _ _) rfl ?_; simp (maxSteps := 400000) only [List.append_eq, go_sem, simprocAttr])
    | (refine WDQ_pure (kInts [2] false true (by decide)) rfl ?_; simp (maxSteps := 400000) only [List.append_eq, go_sem, simprocAttr])
    | (refine WDQ_pure (kInts [1] false true (by decide)) rfl ?_; simp (maxSteps := 400000) only [List.append_eq, go_sem, simprocAttr])
    | (refine WDQ_pure cTextX rfl ?_; simp (maxSteps := 400000) only [List.append_eq, textX_self, go_sem, simprocAttr])
    | (refine WDQ_pure cOne rfl ?_; simp (maxSteps := 400000) only [List.append_eq, go_sem, simprocAttr])
    | (refine WDQ_pure kEqual1 rfl ?_; simp (maxSteps := 400000) only [List.append_eq, go_sem, simprocAttr])
end Abs
end Go.Proofs.YtdellinghbppgaaGreatDoor
