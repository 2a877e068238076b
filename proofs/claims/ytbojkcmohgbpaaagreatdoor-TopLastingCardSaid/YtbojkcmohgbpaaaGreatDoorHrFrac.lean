/-
  CONTRACTS: fractions; what marks allow; the rate of a test. No conditions but those in the theorems' heads.
-/
import Derived.Test.YtbojkcmohgbpaaaGreatDoorHrTstX
namespace Go.Proofs.YtbojkcmohgbpaaaGreatDoor
namespace Abs
set_option linter.unusedSimpArgs false
set_option linter.unusedVariables false
set_option maxRecDepth 4000
structure Frac where
  top : Int
  below : Int
  deriving DecidableEq
def Frac.pv (f : Frac) : PV := .agg [.int .i64 f.top, .int .i64 f.below]
attribute [go_sem] Frac.pv
def Frac.B (f : Frac) : Prop := -1000000000 ≤ f.top ∧ f.top ≤ 1000000000 ∧ 0 ≤ f.below ∧ f.below ≤ 1000000000
def Frac.lt (f g : Frac) : Bool := decide (f.top * g.below < g.top * f.below)
def Frac.down (f : Frac) : Int := f.top / f.below
def Frac.up (f : Frac) : Int := -(-f.top / f.below)
theorem mulB {a b : Int} (h1 : -1000000000 ≤ a) (h2 : a ≤ 1000000000) (h3 : 0 ≤ b) (h4 : b ≤ 1000000000) : -1000000000000000000 ≤ a * b ∧ a * b ≤ 1000000000000000000 := by
  have e1 : a * b ≤ 1000000000 * b := Int.mul_le_mul_of_nonneg_right h2 h3
  have e2 : -1000000000 * b ≤ a * b := Int.mul_le_mul_of_nonneg_right h1 h3
  omega
theorem cLess (f g : Frac) (hf : f.B) (hg : g.B) : PCall Tryz.prog 91 [f.pv, g.pv] (.bool (f.lt g)) := by
  refine pcall_of_wp draws (fn := Tryz.f91) (n := 16) (rs := [.tmp 4]) (by kernel_rfl) rfl rfl rfl ok91 (Nat.le_of_ble_eq_true rfl) ?_
  have h1 := mulB hf.1 hf.2.1 hg.2.2.1 hg.2.2.2
  have h2 := mulB hg.1 hg.2.1 hf.2.2.1 hf.2.2.2
  have e1 : IntKind.i64.wrap (f.top * g.below) = f.top * g.below := wrap_in (by omega) (by omega)
  have e2 : IntKind.i64.wrap (g.top * f.below) = g.top * f.below := wrap_in (by omega) (by omega)
  simp (maxSteps := 400000) only [e1, e2, Frac.lt, go_sem, simprocAttr]
theorem tdiv_floor (a b : Int) (hb : 0 < b) : a / b = if a.tmod b < 0 then a.tdiv b - 1 else a.tdiv b := by
  have h1 := Int.tdiv_eq_ediv (a := a) (b := b)
  have h2 := Int.tmod_eq_emod (a := a) (b := b)
  have h3 := Int.emod_nonneg a (Int.ne_of_gt hb)
  have h4 := Int.emod_lt_of_pos a hb
  have h5 : b.sign = 1 := Int.sign_eq_one_of_pos hb
  have h6 : (b.natAbs : Int) = b := Int.natAbs_of_nonneg (Int.le_of_lt hb)
  rw [h5] at h1
  by_cases hc : 0 ≤ a ∨ b ∣ a
  · rw [if_pos hc] at h1 h2
    rw [if_neg (by omega)]
    omega
  · rw [if_neg hc] at h1 h2
    rw [if_pos (by omega)]
    omega
theorem ediv_range {a b B : Int} (hb : 0 < b) (h1 : -B ≤ a) (h2 : a ≤ B) (hB : 0 ≤ B) : -B ≤ a / b ∧ a / b ≤ B := by
  refine ⟨?_, ?_⟩
  · have : -B * b ≤ a := by
      have : B * 1 ≤ B * b := Int.mul_le_mul_of_nonneg_left (by omega) hB
      have e : -B * b = -(B * b) := by rw [Int.neg_mul]
      omega
    exact (Int.le_ediv_iff_mul_le hb).2 this
  · rcases Int.le_total 0 a with h | h
    · exact Int.le_trans (Int.ediv_le_self b h) h2
    · have : a / b ≤ 0 := by
        have := Int.ediv_le_ediv hb h
        simpa using this
      omega
theorem cDown (f : Frac) (hb : 0 < f.below) (h1 : -1000000000000000000 ≤ f.top) (h2 : f.top ≤ 1000000000000000000) : PCall Tryz.prog 59 [f.pv] (.int .i64 f.down) := by
  refine pcall_of_wp draws (fn := Tryz.f59) (n := 18) (rs := [.tmp 2]) (by kernel_rfl) rfl rfl rfl ok59 (Nat.le_of_ble_eq_true rfl) ?_
  have hb0 : ¬ f.below = 0 := by omega
  have hr := ediv_range hb h1 h2 (by omega)
  have hd := tdiv_floor f.top f.below hb
  have e1 : IntKind.i64.wrap (f.top.tdiv f.below) = f.top.tdiv f.below := by
    split at hd
    · exact wrap_in (by omega) (by omega)
    · exact wrap_in (by omega) (by omega)
  simp (maxSteps := 400000) only [hb0, e1, Frac.down, go_sem, simprocAttr]
  cases hm : decide (f.top.tmod f.below < 0)
  · rw [if_neg (by simpa using hm)] at hd
    simp (maxSteps := 400000) only [hd, go_sem, simprocAttr]
  · rw [if_pos (by simpa using hm)] at hd
    have e2 : IntKind.i64.wrap (f.top.tdiv f.below - 1) = f.top.tdiv f.below - 1 := wrap_in (by omega) (by omega)
    simp (maxSteps := 400000) only [hd, e2, go_sem, simprocAttr]
theorem cUp (f : Frac) (hb : 0 < f.below) (h1 : -1000000000000000000 ≤ f.top) (h2 : f.top ≤ 1000000000000000000) : PCall Tryz.prog 60 [f.pv] (.int .i64 f.up) := by
  refine pcall_of_wp draws (fn := Tryz.f60) (n := 11) (rs := [.tmp 2]) (by kernel_rfl) rfl rfl rfl ok60 (Nat.le_of_ble_eq_true rfl) ?_
  have e1 : IntKind.i64.wrap (-f.top) = -f.top := wrap_in (by omega) (by omega)
  have hr := ediv_range (a := -f.top) (B := 1000000000000000000) hb (by omega) (by omega) (by omega)
  have e2 : IntKind.i64.wrap (-(-f.top / f.below)) = -(-f.top / f.below) := wrap_in (by omega) (by omega)
  simp (maxSteps := 400000) only [e1, go_sem, simprocAttr]
  refine WF_pure (cDown ⟨-f.top, f.below⟩ hb (by show -1000000000000000000 ≤ -f.top; omega) (by show -f.top ≤ 1000000000000000000; omega)) rfl ?_
  simp (maxSteps := 400000) only [Frac.down, e2, Frac.up, go_sem, simprocAttr]
def keepLo (lo least : Frac) : Frac := if (decide (lo = ⟨0, 0⟩) || lo.lt least) = true then least else lo
def keepHi (hi most : Frac) : Frac := if (decide (hi = ⟨0, 0⟩) || most.lt hi) = true then most else hi
theorem fr_zero (f : Frac) : ((f.top == 0) && (f.below == 0)) = decide (f = ⟨0, 0⟩) := by
  cases f with
  | mk a b => rw [Bool.eq_iff_iff]; simp
theorem hKeep (lo hi least most : Frac) (i j : Nat) (h : Heap) (hi0 : h[i]? = some (.row 2 [.p lo.pv])) (hj0 : h[j]? = some (.row 2 [.p hi.pv])) (hij : i ≠ j) (b1 : lo.B) (b2 : hi.B) (b3 : least.B) (b4 : most.B) :
    HCall Tryz.prog 90 [.p least.pv, .p most.pv, .ptr i 1 0 0, .ptr j 1 0 0] h (fun r h' => r = .ret (.p (.tuple [])) ∧
      h' = (h.set i (.row 2 [.p (keepLo lo least).pv])).set j (.row 2 [.p (keepHi hi most).pv]) ++ [.row 2 [.p least.pv], .row 2 [.p most.pv]]) := by
  refine hcall_of_wp draws (fn := Tryz.f90) (n := 24) (rs := []) (by kernel_rfl) rfl rfl rfl ok90 (Nat.le_of_ble_eq_true rfl) ?_
  have hil : i < h.length := (List.getElem?_eq_some_iff.1 hi0).1
  have hjl : j < h.length := (List.getElem?_eq_some_iff.1 hj0).1
  have gi : ∀ t, (h ++ t)[i]? = some (.row 2 [.p lo.pv]) := fun t => by rw [List.getElem?_append_left hil]; exact hi0
  have gj : ∀ t, (h ++ t)[j]? = some (.row 2 [.p hi.pv]) := fun t => by rw [List.getElem?_append_left hjl]; exact hj0
  have gj2 : ∀ x t, (h.set i x ++ t)[j]? = some (.row 2 [.p hi.pv]) := fun x t => by rw [List.getElem?_append_left (by simpa using hjl), List.getElem?_set_ne hij]; exact hj0
  have si : ∀ t x, (h ++ t).set i x = h.set i x ++ t := fun t x => List.set_append_left _ _ hil
  have sj : ∀ t x, (h ++ t).set j x = h.set j x ++ t := fun t x => List.set_append_left _ _ hjl
  have sj2 : ∀ t x y, (h.set i y ++ t).set j x = (h.set i y).set j x ++ t := fun t x y => List.set_append_left _ _ (by simpa using hjl)
  have gg := hap_gg (lo := h) rfl
  have g0 := hap_g0 (lo := h) rfl
  have gg2 : ∀ x, ∀ t j, (h.set i x ++ t)[h.length + j]? = t[j]? := fun x => hap_gg (lo := h.set i x) (by simp)
  have g02 : ∀ x, ∀ t, (h.set i x ++ t)[h.length]? = t[0]? := fun x => hap_g0 (lo := h.set i x) (by simp)
  have same_i : h.set i (.row 2 [.p lo.pv]) = h := same_set hi0
  have same_j : h.set j (.row 2 [.p hi.pv]) = h := same_set hj0
  have same_j2 : ∀ x, (h.set i x).set j (.row 2 [.p hi.pv]) = h.set i x := fun x => same_set (by rw [List.getElem?_set_ne hij]; exact hj0)
  simp only [Frac.pv] at gi gj gj2 same_i same_j same_j2
  simp (maxSteps := 400000) only [List.append_assoc, List.length_append, List.length_singleton, gi, gj, gj2, gg, g0, gg2, g02, si, sj, sj2, fr_zero, go_sem, simprocAttr]
  cases z1 : decide (lo = ⟨0, 0⟩)
  · simp (maxSteps := 400000) only [List.append_assoc, List.length_append, List.length_singleton, gi, gj, gj2, gg, g0, gg2, g02, si, sj, sj2, fr_zero, go_sem, simprocAttr]
    refine WF_pure (cLess lo least b1 b3) rfl ?_
    simp (maxSteps := 400000) only [List.append_assoc, List.length_append, List.length_singleton, gi, gj, gj2, gg, g0, gg2, g02, si, sj, sj2, fr_zero, go_sem, simprocAttr]
    cases z2 : lo.lt least
    · simp (maxSteps := 400000) only [List.append_assoc, List.length_append, List.length_singleton, gi, gj, gj2, gg, g0, gg2, g02, si, sj, sj2, fr_zero, go_sem, simprocAttr]
      cases z3 : decide (hi = ⟨0, 0⟩)
      · simp (maxSteps := 400000) only [List.append_assoc, List.length_append, List.length_singleton, gi, gj, gj2, gg, g0, gg2, g02, si, sj, sj2, fr_zero, go_sem, simprocAttr]
        refine WF_pure (cLess most hi b4 b2) rfl ?_
        simp (maxSteps := 400000) only [List.append_assoc, List.length_append, List.length_singleton, gi, gj, gj2, gg, g0, gg2, g02, si, sj, sj2, fr_zero, go_sem, simprocAttr]
        cases z4 : most.lt hi
        · simp (maxSteps := 400000) only [List.append_assoc, List.length_append, List.length_singleton, gi, gj, gj2, gg, g0, gg2, g02, si, sj, sj2, fr_zero, go_sem, simprocAttr]
          simp only [keepLo, keepHi, z1, z2, z3, z4, Bool.true_or, Bool.false_or, if_true, Bool.false_eq_true, if_false, Frac.pv, same_i, same_j, same_j2]
        · simp (maxSteps := 400000) only [List.append_assoc, List.length_append, List.length_singleton, gi, gj, gj2, gg, g0, gg2, g02, si, sj, sj2, fr_zero, go_sem, simprocAttr]
          simp only [keepLo, keepHi, z1, z2, z3, z4, Bool.true_or, Bool.false_or, if_true, Bool.false_eq_true, if_false, Frac.pv, same_i, same_j, same_j2]
      · simp (maxSteps := 400000) only [List.append_assoc, List.length_append, List.length_singleton, gi, gj, gj2, gg, g0, gg2, g02, si, sj, sj2, fr_zero, go_sem, simprocAttr]
        simp only [keepLo, keepHi, z1, z2, z3, Bool.true_or, Bool.false_or, if_true, Bool.false_eq_true, if_false, Frac.pv, same_i, same_j, same_j2]
    · simp (maxSteps := 400000) only [List.append_assoc, List.length_append, List.length_singleton, gi, gj, gj2, gg, g0, gg2, g02, si, sj, sj2, fr_zero, go_sem, simprocAttr]
      cases z3 : decide (hi = ⟨0, 0⟩)
      · simp (maxSteps := 400000) only [List.append_assoc, List.length_append, List.length_singleton, gi, gj, gj2, gg, g0, gg2, g02, si, sj, sj2, fr_zero, go_sem, simprocAttr]
        refine WF_pure (cLess most hi b4 b2) rfl ?_
        simp (maxSteps := 400000) only [List.append_assoc, List.length_append, List.length_singleton, gi, gj, gj2, gg, g0, gg2, g02, si, sj, sj2, fr_zero, go_sem, simprocAttr]
        cases z4 : most.lt hi
        · simp (maxSteps := 400000) only [List.append_assoc, List.length_append, List.length_singleton, gi, gj, gj2, gg, g0, gg2, g02, si, sj, sj2, fr_zero, go_sem, simprocAttr]
          simp only [keepLo, keepHi, z1, z2, z3, z4, Bool.true_or, Bool.false_or, if_true, Bool.false_eq_true, if_false, Frac.pv, same_i, same_j, same_j2]
        · simp (maxSteps := 400000) only [List.append_assoc, List.length_append, List.length_singleton, gi, gj, gj2, gg, g0, gg2, g02, si, sj, sj2, fr_zero, go_sem, simprocAttr]
          simp only [keepLo, keepHi, z1, z2, z3, z4, Bool.true_or, Bool.false_or, if_true, Bool.false_eq_true, if_false, Frac.pv, same_i, same_j, same_j2]
      · simp (maxSteps := 400000) only [List.append_assoc, List.length_append, List.length_singleton, gi, gj, gj2, gg, g0, gg2, g02, si, sj, sj2, fr_zero, go_sem, simprocAttr]
        simp only [keepLo, keepHi, z1, z2, z3, Bool.true_or, Bool.false_or, if_true, Bool.false_eq_true, if_false, Frac.pv, same_i, same_j, same_j2]
  · simp (maxSteps := 400000) only [List.append_assoc, List.length_append, List.length_singleton, gi, gj, gj2, gg, g0, gg2, g02, si, sj, sj2, fr_zero, go_sem, simprocAttr]
    cases z3 : decide (hi = ⟨0, 0⟩)
    · simp (maxSteps := 400000) only [List.append_assoc, List.length_append, List.length_singleton, gi, gj, gj2, gg, g0, gg2, g02, si, sj, sj2, fr_zero, go_sem, simprocAttr]
      refine WF_pure (cLess most hi b4 b2) rfl ?_
      simp (maxSteps := 400000) only [List.append_assoc, List.length_append, List.length_singleton, gi, gj, gj2, gg, g0, gg2, g02, si, sj, sj2, fr_zero, go_sem, simprocAttr]
      cases z4 : most.lt hi
      · simp (maxSteps := 400000) only [List.append_assoc, List.length_append, List.length_singleton, gi, gj, gj2, gg, g0, gg2, g02, si, sj, sj2, fr_zero, go_sem, simprocAttr]
        simp only [keepLo, keepHi, z1, z3, z4, Bool.true_or, Bool.false_or, if_true, Bool.false_eq_true, if_false, Frac.pv, same_i, same_j, same_j2]
      · simp (maxSteps := 400000) only [List.append_assoc, List.length_append, List.length_singleton, gi, gj, gj2, gg, g0, gg2, g02, si, sj, sj2, fr_zero, go_sem, simprocAttr]
        simp only [keepLo, keepHi, z1, z3, z4, Bool.true_or, Bool.false_or, if_true, Bool.false_eq_true, if_false, Frac.pv, same_i, same_j, same_j2]
    · simp (maxSteps := 400000) only [List.append_assoc, List.length_append, List.length_singleton, gi, gj, gj2, gg, g0, gg2, g02, si, sj, sj2, fr_zero, go_sem, simprocAttr]
      simp only [keepLo, keepHi, z1, z3, Bool.true_or, Bool.false_or, if_true, Bool.false_eq_true, if_false, Frac.pv, same_i, same_j, same_j2]
def fracs (e : Int) (a b : HrMark) : Frac × Frac := (⟨60 * (a.weight - b.weight - 2 * e), b.minute - a.minute⟩, ⟨60 * (a.weight - b.weight + 2 * e), b.minute - a.minute⟩)
def pairsGo (e : Int) : List HrMark → List HrMark → List (Frac × Frac)
  | _, [] => []
  | done, b :: r => done.map (fun a => fracs e a b) ++ pairsGo e (done ++ [b]) r
def pairL (t : HrTest) : List (Frac × Frac) := pairsGo t.error [] t.marks
def fracPV (q : Frac × Frac) : List PV := [q.1.pv, q.2.pv]
def pairPV (t : HrTest) : PV := .func (.func 115) [] [.ptr 3 [t.pv] 0 0]
theorem cPairs (t : HrTest) : PCall Tryz.prog 92 [t.pv] (pairPV t) := by
  refine pcall_of_wp_frz draws (fn := Tryz.f92) (n := 4) (rs := [.tmp 2]) (by kernel_rfl) rfl rfl rfl ok92 (Nat.le_of_ble_eq_true rfl) ?_
  simp (maxSteps := 400000) only [pairPV, go_sem, simprocAttr]
structure MarksOk (t : HrTest) : Prop where
  len : t.marks.length ≤ 10
  all : ∀ m, m ∈ t.marks → 0 ≤ m.minute ∧ m.minute ≤ 1000000 ∧ 0 ≤ m.weight ∧ m.weight ≤ 10000000
  err : 0 ≤ t.error ∧ t.error ≤ 10000
set_option maxHeartbeats 2000000 in
theorem iPairs (t : HrTest) (hok : MarksOk t) : IterX Tryz.prog (pairPV t) 2 ((pairL t).map fracPV) := by
  refine ⟨fun a ha => ?_, _, _, _, rfl, fun id Inv Fin h0 hid hy hi => ?_⟩
  · obtain ⟨q, _, rfl⟩ := List.mem_map.1 ha
    rfl
  have hl := hok.len
  have he := hok.err
  refine hcall_of_wp draws (fn := Tryz.f115) (n := 57) (rs := []) (by kernel_rfl) rfl rfl rfl ok115 (Nat.le_of_ble_eq_true rfl) ?_
  simp (maxSteps := 400000) only [go_sem, simprocAttr]
  refine W_loopK [0, 1, 10, 11] (σ := List HrMark × List HrMark × List (Frac × Frac) × Heap × Heap)
    (fun q => t.marks = q.1 ++ q.2.1 ∧ pairL t = q.2.2.1 ++ pairsGo t.error q.1 q.2.1 ∧ Inv q.2.2.1.length q.2.2.2.1 ∧ q.2.2.2.1.length = h0.length) (fun q => q.2.1.length)
    (fun q => [(12, .p (.int .i64 q.1.length))]) (fun q => q.2.2.2.1 ++ q.2.2.2.2) ([], t.marks, [], h0, []) ⟨rfl, rfl, hi, rfl⟩ (by simp) ?_ ?_
  · simp (maxSteps := 400000) only [go_sem, simprocAttr]
  rintro ⟨done, rest, pre, lo, mid⟩ ⟨e1, e2, hI, hlo⟩
  dsimp only at e1 e2 hI hlo
  cases rest with
  | nil =>
    have hlt : ¬ ((done.length : Int) < (t.marks.length : Int)) := by rw [e1]; simp
    simp (maxSteps := 400000) only [hlt, decide_false, go_sem, simprocAttr]
    refine ⟨lo, mid, rfl, hlo, .inl ?_⟩
    rw [e2]
    simpa [pairsGo] using hI
  | cons b r =>
    obtain ⟨hx, hlt⟩ := list_at e1
    have hlen := congrArg List.length e1
    simp only [List.length_append, List.length_cons] at hlen
    have hnx : IntKind.i64.wrap ((done.length : Int) + 1) = (((done ++ [b]).length : Nat) : Int) := wrap_add (by omega) (by simp [room]; omega) (by simp)
    have hle : ((done.length : Nat) : Int) ≤ (t.marks.length : Int) := by omega
    have htk : (t.marks.map HrMark.pv).take done.length = done.map HrMark.pv := by
      rw [e1, List.map_append, List.take_left' (by simp)]
    have hne : (done.length == t.marks.length) = false := by simp; omega
    have hb := hok.all b (by rw [e1]; simp)
    rw [pairsGo] at e2
    have gg := hap_gg hlo
    have ss := hap_ss hlo
    have mg := hap_g0 (lo := mid) rfl
    have ms := hap_s0 (lo := mid) rfl
    simp (maxSteps := 400000) only [hlt, decide_true, hx, hle, htk, hne, List.append_assoc, List.length_append, List.length_singleton, hlo, gg, ss, mg, ms, go_sem, simprocAttr]
    refine W_loopK [0, 1, 4, 10, 11, 12, 20, 21] (σ := List HrMark × List HrMark × List (Frac × Frac) × Heap × Heap)
      (fun q => done = q.1 ++ q.2.1 ∧ pairL t = q.2.2.1 ++ (q.2.1.map (fun a => fracs t.error a b) ++ pairsGo t.error (done ++ [b]) r) ∧ Inv q.2.2.1.length q.2.2.2.1 ∧ q.2.2.2.1.length = h0.length ∧ q.2.2.2.2[mid.length]? = some (.row 2 [.p b.pv])) (fun q => q.2.1.length)
      (fun q => [(22, .p (.int .i64 q.1.length))]) (fun q => q.2.2.2.1 ++ q.2.2.2.2) ([], done, pre, lo, mid ++ [.row 2 [.p b.pv]]) ⟨rfl, e2, hI, hlo, mg _⟩ rfl ?_ ?_
    · simp (maxSteps := 400000) only [hlo, go_sem, simprocAttr]
    clear gg ss mg ms hI hlo e2
    rintro ⟨d2, r2, pre2, lo2, mid2⟩ ⟨f1, f2, hI2, hlo2, hb2⟩
    dsimp only at f1 f2 hI2 hlo2 hb2
    cases r2 with
    | nil =>
      have hlt2 : ¬ ((d2.length : Int) < (done.length : Int)) := by rw [f1]; simp
      simp (maxSteps := 400000) only [hlt2, decide_false, go_sem, simprocAttr]
      refine WQ_headK (done ++ [b], r, pre2, lo2, mid2) ⟨by rw [e1]; simp, by simpa using f2, hI2, hlo2⟩ (Nat.lt_succ_self _) rfl ?_
      simp (maxSteps := 400000) only [hnx, go_sem, simprocAttr]
    | cons a r2 =>
      obtain ⟨hxa, hlta⟩ := list_at f1
      have hlen2 := congrArg List.length f1
      simp only [List.length_append, List.length_cons] at hlen2
      have hnx2 : IntKind.i64.wrap ((d2.length : Int) + 1) = (((d2 ++ [a]).length : Nat) : Int) := wrap_add (by omega) (by simp [room]; omega) (by simp)
      have ha := hok.all a (by rw [e1, f1]; simp)
      have gg := hap_gg hlo2
      have ss := hap_ss hlo2
      have mg := hap_g0 (lo := mid2) rfl
      have ms := hap_s0 (lo := mid2) rfl
      have hbt : ∀ x, (mid2 ++ x)[mid.length]? = some (.row 2 [.p b.pv]) := fun x => by rw [List.getElem?_append_left (List.getElem?_eq_some_iff.1 hb2).1]; exact hb2
      simp only [HrMark.pv] at hbt
      have w1 : IntKind.i64.wrap (a.weight - b.weight) = a.weight - b.weight := wrap_in (by omega) (by omega)
      have w2 : IntKind.i64.wrap (b.minute - a.minute) = b.minute - a.minute := wrap_in (by omega) (by omega)
      have w3 : IntKind.i64.wrap (2 * t.error) = 2 * t.error := wrap_in (by omega) (by omega)
      have w4 : IntKind.i64.wrap (a.weight - b.weight - 2 * t.error) = a.weight - b.weight - 2 * t.error := wrap_in (by omega) (by omega)
      have w5 : IntKind.i64.wrap (60 * (a.weight - b.weight - 2 * t.error)) = 60 * (a.weight - b.weight - 2 * t.error) := wrap_in (by omega) (by omega)
      have w6 : IntKind.i64.wrap (a.weight - b.weight + 2 * t.error) = a.weight - b.weight + 2 * t.error := wrap_in (by omega) (by omega)
      have w7 : IntKind.i64.wrap (60 * (a.weight - b.weight + 2 * t.error)) = 60 * (a.weight - b.weight + 2 * t.error) := wrap_in (by omega) (by omega)
      have hget : ((pairL t).map fracPV)[pre2.length]? = some (fracPV (fracs t.error a b)) := by rw [f2]; simp
      simp (maxSteps := 400000) only [hlta, decide_true, hxa, List.append_assoc, List.length_append, List.length_singleton, hlo2, gg, ss, mg, ms, hbt, w1, w2, w3, w4, w5, w6, w7, go_sem, simprocAttr]
      have hy' := hy pre2.length _ lo2 (mid2 ++ [AObj.row 2 [AV.p a.pv]]) hget hI2 hlo2
      refine WR_yld hy' (fun v h' hr => ?_) (fun v h' hr => ?_)
      rotate_left
      · obtain ⟨_, _, _, _, hr⟩ := hr
        rcases hr with ⟨hr, _⟩ | ⟨hr, _⟩ <;> cases hr
      obtain ⟨lo3, ext, rfl, hlo3, hr⟩ := hr
      rcases hr with ⟨hr, hI3⟩ | ⟨hr, hF⟩
      · cases hr
        simp (maxSteps := 400000) only [go_sem, simprocAttr]
        refine WQ_headK (d2 ++ [a], r2, pre2 ++ [fracs t.error a b], lo3, mid2 ++ [.row 2 [.p a.pv]] ++ ext) ⟨by rw [f1]; simp, by rw [f2]; simp, by simpa using hI3, hlo3, by rw [List.append_assoc]; exact hbt _⟩ (Nat.lt_succ_self _) (by simp [List.append_assoc, HrMark.pv]) ?_
        simp (maxSteps := 400000) only [hnx2, go_sem, simprocAttr]
      · cases hr
        simp (maxSteps := 400000) only [go_sem, simprocAttr]
        exact ⟨lo3, mid2 ++ [.row 2 [.p a.pv]] ++ ext, by simp [List.append_assoc, HrMark.pv], hlo3, .inr hF⟩
structure TestOk (t : HrTest) : Prop extends MarksOk t where
  two : 2 ≤ t.marks.length
  sorted : t.marks.Pairwise fun a b => a.minute < b.minute
def keep2 (q p : Frac × Frac) : Frac × Frac := (keepLo q.1 p.1, keepHi q.2 p.2)
def zero2 : Frac × Frac := (⟨0, 0⟩, ⟨0, 0⟩)
def rateF (t : HrTest) : Frac × Frac := (pairL t).foldl keep2 zero2
def mx0 (x : Int) : Int := if 0 < x then x else 0
def hrRate (t : HrTest) : Span × Bool := (⟨mx0 (rateF t).1.down, mx0 (rateF t).2.up⟩, !(rateF t).2.lt (rateF t).1)
def PairB (q : Frac × Frac) : Prop := q.1.B ∧ q.2.B ∧ 0 < q.1.below ∧ 0 < q.2.below
theorem pairsGo_ok {t : HrTest} (hok : TestOk t) : ∀ (rest done : List HrMark), t.marks = done ++ rest → ∀ q, q ∈ pairsGo t.error done rest → PairB q
  | [], _, _, q, h => by cases h
  | b :: r, done, e, q, h => by
    rw [pairsGo, List.mem_append, List.mem_map] at h
    rcases h with ⟨a, ha, rfl⟩ | h
    · have h1 := hok.all a (by rw [e]; simp [ha])
      have h2 := hok.all b (by rw [e]; simp)
      have h3 : a.minute < b.minute := by
        have := hok.sorted
        rw [e, List.pairwise_append] at this
        exact this.2.2 a ha b (by simp)
      have h4 := hok.err
      simp only [PairB, fracs, Frac.B]
      omega
    · exact pairsGo_ok hok r (done ++ [b]) (by rw [e]; simp) q h
theorem pairL_ok {t : HrTest} (hok : TestOk t) : ∀ q, q ∈ pairL t → PairB q := pairsGo_ok hok t.marks [] rfl
theorem keep2_ok {q p : Frac × Frac} (hq : q = zero2 ∨ PairB q) (hp : PairB p) : PairB (keep2 q p) := by
  unfold keep2 keepLo keepHi
  rcases hq with rfl | hq
  · simpa [zero2] using hp
  · unfold PairB at *
    refine ⟨?_, ?_, ?_, ?_⟩ <;> dsimp only <;> split <;> simp_all
theorem foldl_ok : ∀ (l : List (Frac × Frac)) (q : Frac × Frac), (q = zero2 ∨ PairB q) → (∀ p, p ∈ l → PairB p) → (l.foldl keep2 q = zero2 ∧ l = [] ∨ PairB (l.foldl keep2 q))
  | [], q, hq, _ => hq.imp (fun h => ⟨h, rfl⟩) id
  | p :: l, q, hq, hl => by
    have := foldl_ok l (keep2 q p) (.inr (keep2_ok hq (hl p (by simp)))) fun p' hp' => hl p' (by simp [hp'])
    rcases this with ⟨h1, h2⟩ | h
    · subst h2
      exact .inr (keep2_ok hq (hl p (by simp)))
    · exact .inr h
theorem pairL_ne {t : HrTest} (h : 2 ≤ t.marks.length) : pairL t ≠ [] := by
  unfold pairL
  match hm : t.marks with
  | [] => rw [hm] at h; simp at h
  | [a] => rw [hm] at h; simp at h
  | a :: b :: r => simp [pairsGo]
theorem rateF_ok {t : HrTest} (hok : TestOk t) : PairB (rateF t) := by
  rcases foldl_ok (pairL t) zero2 (.inl rfl) (pairL_ok hok) with ⟨_, h⟩ | h
  · exact absurd h (pairL_ne hok.two)
  · exact h
theorem zero2_B : zero2.1.B ∧ zero2.2.B := by simp [zero2, Frac.B]
set_option maxHeartbeats 2000000 in
theorem cRate0 (t : HrTest) (hok : TestOk t) : PCall Tryz.prog 54 [t.pv] (.tuple [(hrRate t).1.pv, .bool (hrRate t).2]) := by
  refine pcall_of_wp draws (fn := Tryz.f54) (n := 29) (rs := [.cell 2 25, .tmp 3]) (by kernel_rfl) rfl rfl rfl ok54 (Nat.le_of_ble_eq_true rfl) ?_
  simp (maxSteps := 400000) only [H54, W_drawH, go_sem, simprocAttr]
  refine WF_pure (cPairs t) rfl ?_
  simp (maxSteps := 400000) only [pairPV, go_sem, simprocAttr]
  refine W_iterX (l := (pairL t).map fracPV) (fun o k h => h = [.row 3 [.p t.pv], .row 2 [.p (.agg [.int .i64 0, .int .i64 0])], .row 2 [.p (((pairL t).take k).foldl keep2 zero2).1.pv], .row 2 [.p (((pairL t).take k).foldl keep2 zero2).2.pv],
      .row 1 [.func (.func 90) [] [.ptr 2 1 0 0, .ptr 3 1 0 0]], .dblock, o]) (fun _ _ => False)
    rfl (by simp (maxSteps := 400000) only [pairPV, go_sem, simprocAttr]) (iPairs t hok.toMarksOk) draws (by kernel_rfl) (by kernel_rfl) (by kernel_rfl) ?_ ?_ ?_ ?_ (fun _ _ _ h => h.elim)
  · rintro o k h rfl; simp
  · intro o
    simp (maxSteps := 400000) only [zero2, go_sem, simprocAttr]
    exact ⟨rfl, rfl⟩
  · rintro oR oB oD k xs lo mid hk rfl _
    rw [List.getElem?_map, Option.map_eq_some_iff] at hk
    obtain ⟨q, hq, rfl⟩ := hk
    have hqB := pairL_ok hok q (List.mem_of_getElem? hq)
    have hkB : (((pairL t).take k).foldl keep2 zero2).1.B ∧ (((pairL t).take k).foldl keep2 zero2).2.B := by
      rcases foldl_ok ((pairL t).take k) zero2 (.inl rfl) (fun p hp => pairL_ok hok p (List.mem_of_mem_take hp)) with ⟨h, _⟩ | h
      · rw [h]; exact zero2_B
      · exact ⟨h.1, h.2.1⟩
    have mg := hap_g0 (lo := mid) rfl
    have mgg := hap_gg (lo := mid) rfl
    have ms := hap_s0 (lo := mid) rfl
    have mss := hap_ss (lo := mid) rfl
    simp (maxSteps := 400000) only [fracPV, List.append_assoc, List.length_append, List.length_singleton, mg, mgg, ms, mss, go_sem, simprocAttr]
    refine WF_ret (hKeep _ _ q.1 q.2 2 3 _ rfl rfl (by decide) hkB.1 hkB.2 hqB.1 hqB.2.1) ?_
    simp (maxSteps := 400000) only [go_sem, simprocAttr]
    refine ⟨_, [AObj.row 2 [AV.p q.1.pv], AObj.row 2 [AV.p q.2.pv]] ++ [AObj.row 2 [AV.p q.1.pv], AObj.row 2 [AV.p q.2.pv]], ?_, by simp, rfl⟩
    rw [List.take_add_one, hq, Option.toList_some, List.foldl_append]
    simp [keep2, Frac.pv]
  · rintro o lo mid rfl _
    have hr := rateF_ok hok
    rw [List.length_map, List.take_length]
    have e : List.foldl keep2 zero2 (pairL t) = rateF t := rfl
    rw [e]
    simp (maxSteps := 400000) only [H54, W_drawH, go_sem, simprocAttr]
    refine WDQ_pure (cDown (rateF t).1 hr.2.2.1 (by have := hr.1.1; omega) (by have := hr.1.2.1; omega)) rfl ?_
    simp (maxSteps := 400000) only [go_sem, simprocAttr]
    refine WDQ_pure (cUp (rateF t).2 hr.2.2.2 (by have := hr.2.1.1; omega) (by have := hr.2.1.2.1; omega)) rfl ?_
    simp (maxSteps := 400000) only [go_sem, simprocAttr]
    refine WDQ_pure (cLess (rateF t).2 (rateF t).1 hr.2.1 hr.1) rfl ?_
    simp (maxSteps := 400000) only [H54, W_drawH, Span.pv, hrRate, mx0, go_sem, simprocAttr]
    rw [leave_collected]
    simp (maxSteps := 400000) only [go_sem, simprocAttr]
end Abs
end Go.Proofs.YtbojkcmohgbpaaaGreatDoor
