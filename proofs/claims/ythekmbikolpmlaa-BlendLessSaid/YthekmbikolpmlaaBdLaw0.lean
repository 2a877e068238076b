/-
  CONTRACTS: the helpers of the laws of layer 2: the examples' data, what is drawn by turns, calls whose results are known.
-/
import Derived.Test.YthekmbikolpmlaaBdBest
import Derived.Test.YthekmbikolpmlaaAbsKill
namespace Go.Proofs.Ythekmbikolpmlaa
namespace Abs
set_option linter.unusedSimpArgs false
set_option linter.unusedVariables false
set_option maxRecDepth 10000

theorem frzList_mapApp {α : Type} (n : Nat) (h : Heap) (f : α → PV) (m : List AV) (l : List α) : frzList (frzN n h) ((l.map fun x => .p (f x)) ++ m) = (frzList (frzN n h) m).map (l.map f ++ ·) := by
  have := frzList_app n h m (l.map f)
  rwa [List.map_map] at this
attribute [go_sem] frzList_mapApp
theorem cLawSpan (a b : Int) : PCall Try.prog 35 [.int .i64 a, .int .i64 b] (.agg [.int .i64 a, .int .i64 b]) := by
  refine pcall_of_wp draws (fn := Try.f35) (n := 8) (rs := [.cell 4 36]) (by kernel_rfl) rfl rfl rfl ok35 (Nat.le_of_ble_eq_true rfl) ?_
  simp (config := { maxSteps := 400000 }) only [go_sem, ↓reduceIte, reduceCtorEq, Nat.reduceEqDiff, Nat.reduceAdd, Nat.reduceLT, Nat.reduceLeDiff, Nat.reduceSub, Int.reduceToNat, Int.reduceLE, Int.reduceLT, Int.reduceNeg, Int.reduceBEq, Int.reduceBNe, Nat.reduceMul, Int.reduceAdd, Int.reduceMul, Int.reduceSub, Int.reduceEq, Int.reduceNe]
def waxesX : List BdWax := [⟨⟨#[98, 101, 101, 115]⟩, 1200, ⟨620, 640⟩, ⟨90, 100⟩, []⟩, ⟨⟨#[112, 97, 114, 97, 102, 102, 105, 110]⟩, 200, ⟨540, 580⟩, ⟨110, 150⟩, []⟩, ⟨⟨#[104, 97, 114, 100]⟩, 400, ⟨690, 700⟩, ⟨60, 70⟩, [⟨0, 0⟩, ⟨2, 20⟩, ⟨4, 30⟩]⟩]
def wishX : BdWish := ⟨[⟨4, 5⟩, ⟨0, 20⟩, ⟨0, 1⟩], ⟨560, 620⟩, ⟨0, 140⟩⟩
def lotsX : List BdLot := [⟨630, 90⟩, ⟨560, 130⟩, ⟨700, 60⟩]
theorem pl_refls : ∀ l : List PV, PLs l l
  | [] => trivial
  | x :: l => ⟨.refl x, pl_refls l⟩
theorem cWaxes : PCall Try.prog 33 [] (bdWaxes waxesX) := by
  refine PCall.lessD (q := .slice 7 [.agg [.str ⟨#[98, 101, 101, 115]⟩, .int .i64 1200, .int .i64 620, .int .i64 640, .int .i64 90, .int .i64 100, .nilslice], .agg [.str ⟨#[112, 97, 114, 97, 102, 102, 105, 110]⟩, .int .i64 200, .int .i64 540, .int .i64 580, .int .i64 110, .int .i64 150, .nilslice],
      .agg [.str ⟨#[104, 97, 114, 100]⟩, .int .i64 400, .int .i64 690, .int .i64 700, .int .i64 60, .int .i64 70, .slice 2 [.agg [.int .i64 0, .int .i64 0], .agg [.int .i64 2, .int .i64 20], .agg [.int .i64 4, .int .i64 30]] true]] true) ?_ ?_
  · refine pcall_of_wp draws (fn := Try.f33) (n := 15) (rs := [.tmp 0]) (by kernel_rfl) rfl rfl rfl ok33 (Nat.le_of_ble_eq_true rfl) ?_
    simp (config := { maxSteps := 400000 }) only [go_sem, ↓reduceIte, reduceCtorEq, Nat.reduceEqDiff, Nat.reduceAdd, Nat.reduceLT, Nat.reduceLeDiff, Nat.reduceSub, Int.reduceToNat, Int.reduceLE, Int.reduceLT, Int.reduceNeg, Int.reduceBEq, Int.reduceBNe, Nat.reduceMul, Int.reduceAdd, Int.reduceMul, Int.reduceSub, Int.reduceEq, Int.reduceNe]
    repeat' (refine WF_pure (cLawSpan _ _) rfl ?_; simp (config := { maxSteps := 400000 }) only [go_sem, ↓reduceIte, reduceCtorEq, Nat.reduceEqDiff, Nat.reduceAdd, Nat.reduceLT, Nat.reduceLeDiff, Nat.reduceSub, Int.reduceToNat, Int.reduceLE, Int.reduceLT, Int.reduceNeg, Int.reduceBEq, Int.reduceBNe, Nat.reduceMul, Int.reduceAdd, Int.reduceMul, Int.reduceSub, Int.reduceEq, Int.reduceNe])
  · refine PL.sliceL rfl ⟨PL.aggL rfl ⟨.refl _, .refl _, .refl _, .refl _, .refl _, .refl _, .nil _, trivial⟩, PL.aggL rfl ⟨.refl _, .refl _, .refl _, .refl _, .refl _, .refl _, .nil _, trivial⟩,
      PL.aggL rfl ⟨.refl _, .refl _, .refl _, .refl _, .refl _, .refl _, PL.sliceL rfl (pl_refls _), trivial⟩, trivial⟩
theorem cWish : PCall Try.prog 34 [] wishX.pv := by
  refine PCall.lessD (q := .agg [.slice 2 [.agg [.int .i64 4, .int .i64 5], .agg [.int .i64 0, .int .i64 20], .agg [.int .i64 0, .int .i64 1]] true, .int .i64 560, .int .i64 620, .int .i64 0, .int .i64 140]) ?_ ?_
  · refine pcall_of_wp draws (fn := Try.f34) (n := 8) (rs := [.cell 0 46]) (by kernel_rfl) rfl rfl rfl ok34 (Nat.le_of_ble_eq_true rfl) ?_
    simp (config := { maxSteps := 400000 }) only [go_sem, ↓reduceIte, reduceCtorEq, Nat.reduceEqDiff, Nat.reduceAdd, Nat.reduceLT, Nat.reduceLeDiff, Nat.reduceSub, Int.reduceToNat, Int.reduceLE, Int.reduceLT, Int.reduceNeg, Int.reduceBEq, Int.reduceBNe, Nat.reduceMul, Int.reduceAdd, Int.reduceMul, Int.reduceSub, Int.reduceEq, Int.reduceNe]
    repeat' (refine WF_pure (cLawSpan _ _) rfl ?_; simp (config := { maxSteps := 400000 }) only [go_sem, ↓reduceIte, reduceCtorEq, Nat.reduceEqDiff, Nat.reduceAdd, Nat.reduceLT, Nat.reduceLeDiff, Nat.reduceSub, Int.reduceToNat, Int.reduceLE, Int.reduceLT, Int.reduceNeg, Int.reduceBEq, Int.reduceBNe, Nat.reduceMul, Int.reduceAdd, Int.reduceMul, Int.reduceSub, Int.reduceEq, Int.reduceNe])
  · exact PL.aggL rfl ⟨PL.sliceL rfl (pl_refls _), .refl _, .refl _, .refl _, .refl _, trivial⟩
theorem cValid (l : List BdWax) : PCall Try.prog 36 [bdWaxes l] (.bool (bdE l == 0)) := by
  refine pcall_of_wp draws (fn := Try.f36) (n := 14) (rs := [.tmp 2]) (by kernel_rfl) rfl rfl rfl ok36 (Nat.le_of_ble_eq_true rfl) ?_
  simp (config := { maxSteps := 400000 }) only [go_sem, ↓reduceIte, reduceCtorEq, Nat.reduceEqDiff, Nat.reduceAdd, Nat.reduceLT, Nat.reduceLeDiff, Nat.reduceSub, Int.reduceToNat, Int.reduceLE, Int.reduceLT, Int.reduceNeg, Int.reduceBEq, Int.reduceBNe, Nat.reduceMul, Int.reduceAdd, Int.reduceMul, Int.reduceSub, Int.reduceEq, Int.reduceNe]
  (first | refine WF_pure (cRefBdCheck l) rfl ?_ | refine WDQ_pure (cRefBdCheck l) rfl ?_)
  simp (config := { maxSteps := 400000 }) only [triple, go_sem, ↓reduceIte, reduceCtorEq, Nat.reduceEqDiff, Nat.reduceAdd, Nat.reduceLT, Nat.reduceLeDiff, Nat.reduceSub, Int.reduceToNat, Int.reduceLE, Int.reduceLT, Int.reduceNeg, Int.reduceBEq, Int.reduceBNe, Nat.reduceMul, Int.reduceAdd, Int.reduceMul, Int.reduceSub, Int.reduceEq, Int.reduceNe]
  rfl

/-! by turns -/
def u16 (n : Int) : PV := .int .u16 n
attribute [go_sem] u16
/-- numbers of 16 bits -/
def U16s (x : List Int) : Prop := (∀ v, v ∈ x → 0 ≤ v ∧ v ≤ 65535) ∧ x.length < 9223372036854775808
def u16s (x : List Int) : PV := .slice 1 (x.map u16) false
attribute [go_sem] u16s
def turnS (x : List Int) (n : Nat) : Int := match x[n % x.length]? with | some v => v | none => 0
theorem turnS_bd {x : List Int} (hx : ∀ v, v ∈ x → 0 ≤ v ∧ v ≤ 65535) (n : Nat) : 0 ≤ turnS x n ∧ turnS x n ≤ 65535 := by
  unfold turnS
  split
  · rename_i v h
    exact hx v (List.mem_of_getElem? h)
  · omega
theorem cTurn (x : List Int) (b : Bool) (n : Nat) (hx : ∀ v, v ∈ x → 0 ≤ v ∧ v ≤ 65535) (hl : x.length < 9223372036854775808) : PCall Try.prog 46 [.slice 1 (x.map u16) b, .int .i64 n] (.int .i64 (turnS x n)) := by
  refine pcall_of_wp draws (fn := Try.f46) (n := 16) (rs := [.tmp 4]) (by kernel_rfl) rfl rfl rfl ok46 (Nat.le_of_ble_eq_true rfl) ?_
  simp (config := { maxSteps := 400000 }) only [go_sem, ↓reduceIte, reduceCtorEq, Nat.reduceEqDiff, Nat.reduceAdd, Nat.reduceLT, Nat.reduceLeDiff, Nat.reduceSub, Int.reduceToNat, Int.reduceLE, Int.reduceLT, Int.reduceNeg, Int.reduceBEq, Int.reduceBNe, Nat.reduceMul, Int.reduceAdd, Int.reduceMul, Int.reduceSub, Int.reduceEq, Int.reduceNe]
  refine WB_split (fun hb => ?_) (fun hb => ?_)
  · have : x = [] := by simpa using hb
    simp (config := { maxSteps := 400000 }) only [go_sem, ↓reduceIte, reduceCtorEq, Nat.reduceEqDiff, Nat.reduceAdd, Nat.reduceLT, Nat.reduceLeDiff, Nat.reduceSub, Int.reduceToNat, Int.reduceLE, Int.reduceLT, Int.reduceNeg, Int.reduceBEq, Int.reduceBNe, Nat.reduceMul, Int.reduceAdd, Int.reduceMul, Int.reduceSub, Int.reduceEq, Int.reduceNe]
    simp [this, turnS]
  · have hne : ¬ x.length = 0 := by simpa using hb
    have hne' : ¬ ((x.length : Nat) : Int) = 0 := by omega
    have hm : ((n : Nat) : Int).tmod ((x.length : Nat) : Int) = ((n % x.length : Nat) : Int) := by rw [Int.tmod_eq_emod_of_nonneg (by omega)]; omega
    have hlt := Nat.mod_lt n (show 0 < x.length by omega)
    have hlt' : ((n % x.length : Nat) : Int) < (x.length : Int) := by omega
    obtain ⟨v, hv⟩ : ∃ v, x[n % x.length]? = some v := ⟨_, List.getElem?_eq_getElem hlt⟩
    have hvb := hx v (List.mem_of_getElem? hv)
    have hw : IntKind.i64.wrap v = v := wrap_in (by omega) (by omega)
    simp (config := { maxSteps := 400000 }) only [hne', hm, hlt', hv, hw, go_sem, ↓reduceIte, reduceCtorEq, Nat.reduceEqDiff, Nat.reduceAdd, Nat.reduceLT, Nat.reduceLeDiff, Nat.reduceSub, Int.reduceToNat, Int.reduceLE, Int.reduceLT, Int.reduceNeg, Int.reduceBEq, Int.reduceBNe, Nat.reduceMul, Int.reduceAdd, Int.reduceMul, Int.reduceSub, Int.reduceEq, Int.reduceNe]
    simp [turnS, hv]
def amongS (s : Span) (n : Int) : Int := s.lo + n % (s.hi - s.lo + 1)
theorem amongS_in {s : Span} {n : Int} (hs : s.lo ≤ s.hi) (hn : 0 ≤ n) : s.lo ≤ amongS s n ∧ amongS s n ≤ s.hi := by
  unfold amongS
  have h1 := Int.emod_nonneg n (show s.hi - s.lo + 1 ≠ 0 by omega)
  have h2 := Int.emod_lt_of_pos n (show 0 < s.hi - s.lo + 1 by omega)
  omega
theorem cAmong (s : Span) (n : Int) (hs : 0 ≤ s.lo ∧ s.lo ≤ s.hi ∧ s.hi ≤ 100000) (hn : 0 ≤ n) : PCall Try.prog 47 [s.pv, .int .i64 n] (.int .i64 (amongS s n)) := by
  refine pcall_of_wp draws (fn := Try.f47) (n := 16) (rs := [.tmp 4]) (by kernel_rfl) rfl rfl rfl ok47 (Nat.le_of_ble_eq_true rfl) ?_
  have hin := amongS_in hs.2.1 hn
  have w1 : IntKind.i64.wrap (s.hi - s.lo) = s.hi - s.lo := wrap_in (by omega) (by omega)
  have w2 : IntKind.i64.wrap (s.hi - s.lo + 1) = s.hi - s.lo + 1 := wrap_in (by omega) (by omega)
  have hne : ¬ s.hi - s.lo + 1 = 0 := by omega
  have hm : n.tmod (s.hi - s.lo + 1) = n % (s.hi - s.lo + 1) := Int.tmod_eq_emod_of_nonneg hn
  have w3 : IntKind.i64.wrap (amongS s n) = amongS s n := wrap_in (by omega) (by omega)
  unfold amongS at w3 ⊢
  simp (config := { maxSteps := 400000 }) only [w1, w2, hne, hm, w3, go_sem, ↓reduceIte, reduceCtorEq, Nat.reduceEqDiff, Nat.reduceAdd, Nat.reduceLT, Nat.reduceLeDiff, Nat.reduceSub, Int.reduceToNat, Int.reduceLE, Int.reduceLT, Int.reduceNeg, Int.reduceBEq, Int.reduceBNe, Nat.reduceMul, Int.reduceAdd, Int.reduceMul, Int.reduceSub, Int.reduceEq, Int.reduceNe]

/-! recipes by turns -/
def partedGo (x : List Int) : Nat → Nat → Int → List Int
  | 0, _, left => [left]
  | k + 1, i, left => turnS x i % (left + 1) :: partedGo x k (i + 1) (left - turnS x i % (left + 1))
def parted (m : Nat) (x : List Int) : List Int := partedGo x (m - 1) 0 20
theorem partedGo_ok {x : List Int} (hx : ∀ v, v ∈ x → 0 ≤ v ∧ v ≤ 65535) : ∀ (k i : Nat) (left : Int), 0 ≤ left → left ≤ 20 → (partedGo x k i left).length = k + 1 ∧ (∀ n, n ∈ partedGo x k i left → 0 ≤ n ∧ n ≤ 20) ∧ (partedGo x k i left).sum = left
  | 0, i, left, h0, h1 => by
    refine ⟨rfl, fun n hn => ?_, by simp [partedGo]⟩
    simp [partedGo] at hn
    omega
  | k + 1, i, left, h0, h1 => by
    have ht := turnS_bd hx i
    have m1 := Int.emod_nonneg (turnS x i) (show left + 1 ≠ 0 by omega)
    have m2 := Int.emod_lt_of_pos (turnS x i) (show 0 < left + 1 by omega)
    obtain ⟨h2, h3, h4⟩ := partedGo_ok hx k (i + 1) (left - turnS x i % (left + 1)) (by omega) (by omega)
    rw [partedGo]
    refine ⟨by simp [h2], fun n hn => ?_, by simp [h4]; omega⟩
    rcases List.mem_cons.1 hn with rfl | hn
    · omega
    · exact h3 n hn
theorem parted_ok {x : List Int} (hx : ∀ v, v ∈ x → 0 ≤ v ∧ v ≤ 65535) {m : Nat} (hm : 1 ≤ m) : RecOk m (parted m x) := by
  obtain ⟨h1, h2, h3⟩ := partedGo_ok hx (m - 1) 0 20 (by omega) (by omega)
  exact ⟨by rw [parted, h1]; omega, h2, h3⟩
theorem cParted (m : Nat) (x : List Int) (b : Bool) (hm : 1 ≤ m ∧ m ≤ 5) (hx : ∀ v, v ∈ x → 0 ≤ v ∧ v ≤ 65535) (hl : x.length < 9223372036854775808) :
    PCall Try.prog 37 [.int .i64 m, .slice 1 (x.map u16) b] (.slice 1 ((parted m x).map intPV) false) := by
  refine pcall_of_wp_frz draws (fn := Try.f37) (n := 32) (rs := [.tmp 4]) (by kernel_rfl) rfl rfl rfl ok37 (Nat.le_of_ble_eq_true rfl) ?_
  simp (config := { maxSteps := 400000 }) only [go_sem, ↓reduceIte, reduceCtorEq, Nat.reduceEqDiff, Nat.reduceAdd, Nat.reduceLT, Nat.reduceLeDiff, Nat.reduceSub, Int.reduceToNat, Int.reduceLE, Int.reduceLT, Int.reduceNeg, Int.reduceBEq, Int.reduceBNe, Nat.reduceMul, Int.reduceAdd, Int.reduceMul, Int.reduceSub, Int.reduceEq, Int.reduceNe]
  refine W_loop_nil 5 1 (by simp (config := { maxSteps := 400000 }) only [go_sem, ↓reduceIte, reduceCtorEq, Nat.reduceEqDiff, Nat.reduceAdd, Nat.reduceLT, Nat.reduceLeDiff, Nat.reduceSub, Int.reduceToNat, Int.reduceLE, Int.reduceLT, Int.reduceNeg, Int.reduceBEq, Int.reduceBNe, Nat.reduceMul, Int.reduceAdd, Int.reduceMul, Int.reduceSub, Int.reduceEq, Int.reduceNe]) ?_
  simp (config := { maxSteps := 400000 }) only [go_sem, ↓reduceIte, reduceCtorEq, Nat.reduceEqDiff, Nat.reduceAdd, Nat.reduceLT, Nat.reduceLeDiff, Nat.reduceSub, Int.reduceToNat, Int.reduceLE, Int.reduceLT, Int.reduceNeg, Int.reduceBEq, Int.reduceBNe, Nat.reduceMul, Int.reduceAdd, Int.reduceMul, Int.reduceSub, Int.reduceEq, Int.reduceNe]
  refine W_loopA [0, 1] (σ := List Int × Nat × Int) (fun q => q.1.length + q.2.1 + 1 = m ∧ parted m x = q.1 ++ partedGo x q.2.1 q.1.length q.2.2 ∧ 0 ≤ q.2.2 ∧ q.2.2 ≤ 20) (fun q => q.2.1)
    (fun q => [(7, .p (.int .i64 q.1.length)), (5, .slice 0 q.1.length 0 q.1.length), (6, .p (.int .i64 q.2.2))]) (fun q => [.row 1 (q.1.map fun n => .p (intPV n))]) ([], m - 1, 20) ⟨by simp; omega, rfl, by simp, by simp⟩ ?_ ?_
  · simp (config := { maxSteps := 400000 }) only [go_sem, ↓reduceIte, reduceCtorEq, Nat.reduceEqDiff, Nat.reduceAdd, Nat.reduceLT, Nat.reduceLeDiff, Nat.reduceSub, Int.reduceToNat, Int.reduceLE, Int.reduceLT, Int.reduceNeg, Int.reduceBEq, Int.reduceBNe, Nat.reduceMul, Int.reduceAdd, Int.reduceMul, Int.reduceSub, Int.reduceEq, Int.reduceNe]
  rintro ⟨acc, k, left⟩ ⟨e1, e2, e3, e4⟩
  dsimp only at e1 e2 e3 e4
  have hw : IntKind.i64.wrap ((acc.length : Int) + 1) = ((acc.length + 1 : Nat) : Int) := wrap_add (by omega) (by simp [room]; omega) (by omega)
  have hrm : acc.length + 1 ≤ room := by simp [room]; omega
  cases k with
  | zero =>
    have hlt : ¬ ((acc.length + 1 : Nat) : Int) < (m : Int) := by omega
    rw [partedGo] at e2
    simp (config := { maxSteps := 400000 }) only [hw, hlt, hrm, go_sem, ↓reduceIte, reduceCtorEq, Nat.reduceEqDiff, Nat.reduceAdd, Nat.reduceLT, Nat.reduceLeDiff, Nat.reduceSub, Int.reduceToNat, Int.reduceLE, Int.reduceLT, Int.reduceNeg, Int.reduceBEq, Int.reduceBNe, Nat.reduceMul, Int.reduceAdd, Int.reduceMul, Int.reduceSub, Int.reduceEq, Int.reduceNe]
    rw [e2]
    simp only [List.map_append, List.map_cons, List.map_nil]
    simp (config := { maxSteps := 400000 }) only [List.length_append, go_sem, ↓reduceIte, reduceCtorEq, Nat.reduceEqDiff, Nat.reduceAdd, Nat.reduceLT, Nat.reduceLeDiff, Nat.reduceSub, Int.reduceToNat, Int.reduceLE, Int.reduceLT, Int.reduceNeg, Int.reduceBEq, Int.reduceBNe, Nat.reduceMul, Int.reduceAdd, Int.reduceMul, Int.reduceSub, Int.reduceEq, Int.reduceNe]
    rfl
  | succ k =>
    have hlt : ((acc.length + 1 : Nat) : Int) < (m : Int) := by omega
    have ht := turnS_bd hx acc.length
    have m1 := Int.emod_nonneg (turnS x acc.length) (show left + 1 ≠ 0 by omega)
    have m2 := Int.emod_lt_of_pos (turnS x acc.length) (show 0 < left + 1 by omega)
    have hwl : IntKind.i64.wrap (left + 1) = left + 1 := wrap_in (by omega) (by omega)
    have hmd : (turnS x acc.length).tmod (left + 1) = turnS x acc.length % (left + 1) := Int.tmod_eq_emod_of_nonneg ht.1
    have hne : ¬ left + 1 = 0 := by omega
    have hws : IntKind.i64.wrap (left - turnS x acc.length % (left + 1)) = left - turnS x acc.length % (left + 1) := wrap_in (by omega) (by omega)
    rw [partedGo] at e2
    simp (config := { maxSteps := 400000 }) only [hw, hlt, go_sem, ↓reduceIte, reduceCtorEq, Nat.reduceEqDiff, Nat.reduceAdd, Nat.reduceLT, Nat.reduceLeDiff, Nat.reduceSub, Int.reduceToNat, Int.reduceLE, Int.reduceLT, Int.reduceNeg, Int.reduceBEq, Int.reduceBNe, Nat.reduceMul, Int.reduceAdd, Int.reduceMul, Int.reduceSub, Int.reduceEq, Int.reduceNe]
    (first | refine WF_pure (cTurn x b acc.length hx hl) rfl ?_ | refine WDQ_pure (cTurn x b acc.length hx hl) rfl ?_)
    simp (config := { maxSteps := 400000 }) only [hwl, hmd, hne, hrm, hws, go_sem, ↓reduceIte, reduceCtorEq, Nat.reduceEqDiff, Nat.reduceAdd, Nat.reduceLT, Nat.reduceLeDiff, Nat.reduceSub, Int.reduceToNat, Int.reduceLE, Int.reduceLT, Int.reduceNeg, Int.reduceBEq, Int.reduceBNe, Nat.reduceMul, Int.reduceAdd, Int.reduceMul, Int.reduceSub, Int.reduceEq, Int.reduceNe]
    refine WQ_headA (acc ++ [turnS x acc.length % (left + 1)], k, left - turnS x acc.length % (left + 1)) ⟨by simp; omega, by rw [e2]; simp, by dsimp only; omega, by dsimp only; omega⟩ (by simp) ?_
    simp (config := { maxSteps := 400000 }) only [hw, List.length_append, List.length_singleton, List.map_append, go_sem, ↓reduceIte, reduceCtorEq, Nat.reduceEqDiff, Nat.reduceAdd, Nat.reduceLT, Nat.reduceLeDiff, Nat.reduceSub, Int.reduceToNat, Int.reduceLE, Int.reduceLT, Int.reduceNeg, Int.reduceBEq, Int.reduceBNe, Nat.reduceMul, Int.reduceAdd, Int.reduceMul, Int.reduceSub, Int.reduceEq, Int.reduceNe]

/-! lots by turns, and those at the ends -/
def lotsGo (x : List Int) : Nat → List BdWax → List BdLot
  | _, [] => []
  | i, w :: l => ⟨amongS w.melt (turnS x (2 * i)), amongS w.shrink (turnS x (2 * i + 1))⟩ :: lotsGo x (i + 1) l
def endLots (l : List BdWax) (most : Bool) : List BdLot := l.map fun w => if most = true then ⟨w.melt.hi, w.shrink.hi⟩ else ⟨w.melt.lo, w.shrink.lo⟩
theorem cLots (l : List BdWax) (x : List Int) (b : Bool) (hl : BdWaxesOk l) (hx : ∀ v, v ∈ x → 0 ≤ v ∧ v ≤ 65535) (hxl : x.length < 9223372036854775808) :
    PCall Try.prog 38 [bdWaxes l, .slice 1 (x.map u16) b] (.slice 2 ((lotsGo x 0 l).map BdLot.pv) false) := by
  refine pcall_of_wp_frz draws (fn := Try.f38) (n := 39) (rs := [.tmp 4]) (by kernel_rfl) rfl rfl rfl ok38 (Nat.le_of_ble_eq_true rfl) ?_
  have hl5 := hl.len
  simp (config := { maxSteps := 400000 }) only [go_sem, ↓reduceIte, reduceCtorEq, Nat.reduceEqDiff, Nat.reduceAdd, Nat.reduceLT, Nat.reduceLeDiff, Nat.reduceSub, Int.reduceToNat, Int.reduceLE, Int.reduceLT, Int.reduceNeg, Int.reduceBEq, Int.reduceBNe, Nat.reduceMul, Int.reduceAdd, Int.reduceMul, Int.reduceSub, Int.reduceEq, Int.reduceNe]
  refine W_loop_nil 5 2 (by simp (config := { maxSteps := 400000 }) only [go_sem, ↓reduceIte, reduceCtorEq, Nat.reduceEqDiff, Nat.reduceAdd, Nat.reduceLT, Nat.reduceLeDiff, Nat.reduceSub, Int.reduceToNat, Int.reduceLE, Int.reduceLT, Int.reduceNeg, Int.reduceBEq, Int.reduceBNe, Nat.reduceMul, Int.reduceAdd, Int.reduceMul, Int.reduceSub, Int.reduceEq, Int.reduceNe]) ?_
  simp (config := { maxSteps := 400000 }) only [go_sem, ↓reduceIte, reduceCtorEq, Nat.reduceEqDiff, Nat.reduceAdd, Nat.reduceLT, Nat.reduceLeDiff, Nat.reduceSub, Int.reduceToNat, Int.reduceLE, Int.reduceLT, Int.reduceNeg, Int.reduceBEq, Int.reduceBNe, Nat.reduceMul, Int.reduceAdd, Int.reduceMul, Int.reduceSub, Int.reduceEq, Int.reduceNe]
  refine W_rangeA [0, 1] l (by omega) (τ := List BdLot) (fun done rest acc => lotsGo x 0 l = acc ++ lotsGo x done.length rest ∧ acc.length = done.length) (fun done acc => [(6, .p (.int .i64 done.length)), (5, .slice 0 acc.length 0 acc.length)]) (fun _ acc => [.row 2 (acc.map fun y => .p y.pv)]) [] ⟨rfl, rfl⟩ ?_ ?_ ?_
  · simp (config := { maxSteps := 400000 }) only [go_sem, ↓reduceIte, reduceCtorEq, Nat.reduceEqDiff, Nat.reduceAdd, Nat.reduceLT, Nat.reduceLeDiff, Nat.reduceSub, Int.reduceToNat, Int.reduceLE, Int.reduceLT, Int.reduceNeg, Int.reduceBEq, Int.reduceBNe, Nat.reduceMul, Int.reduceAdd, Int.reduceMul, Int.reduceSub, Int.reduceEq, Int.reduceNe] <;> simp
  · rintro acc ⟨e2, _⟩
    rw [lotsGo, List.append_nil] at e2
    simp (config := { maxSteps := 400000 }) only [go_sem, ↓reduceIte, reduceCtorEq, Nat.reduceEqDiff, Nat.reduceAdd, Nat.reduceLT, Nat.reduceLeDiff, Nat.reduceSub, Int.reduceToNat, Int.reduceLE, Int.reduceLT, Int.reduceNeg, Int.reduceBEq, Int.reduceBNe, Nat.reduceMul, Int.reduceAdd, Int.reduceMul, Int.reduceSub, Int.reduceEq, Int.reduceNe]
    rw [e2]
    rfl
  · rintro done w r acc e1 ⟨e2, e3⟩ hxx hlt hnx
    have hw := hl.wax w (by rw [e1]; simp)
    have t1 := turnS_bd hx (2 * done.length)
    have t2 := turnS_bd hx (2 * done.length + 1)
    have w1 : IntKind.i64.wrap (2 * (done.length : Int)) = ((2 * done.length : Nat) : Int) := by rw [wrap_small (by omega) (by simp [room]; omega)]; omega
    have w2 : IntKind.i64.wrap (((2 * done.length : Nat) : Int) + 1) = ((2 * done.length + 1 : Nat) : Int) := wrap_add (by omega) (by simp [room]; omega) (by omega)
    have hrm : acc.length + 1 ≤ room := by simp [room]; omega
    simp (config := { maxSteps := 400000 }) only [hlt, hxx, w1, w2, go_sem, ↓reduceIte, reduceCtorEq, Nat.reduceEqDiff, Nat.reduceAdd, Nat.reduceLT, Nat.reduceLeDiff, Nat.reduceSub, Int.reduceToNat, Int.reduceLE, Int.reduceLT, Int.reduceNeg, Int.reduceBEq, Int.reduceBNe, Nat.reduceMul, Int.reduceAdd, Int.reduceMul, Int.reduceSub, Int.reduceEq, Int.reduceNe]
    (first | refine WF_pure (cTurn x b (2 * done.length) hx hxl) rfl ?_ | refine WDQ_pure (cTurn x b (2 * done.length) hx hxl) rfl ?_)
    simp (config := { maxSteps := 400000 }) only [hlt, hxx, w1, w2, go_sem, ↓reduceIte, reduceCtorEq, Nat.reduceEqDiff, Nat.reduceAdd, Nat.reduceLT, Nat.reduceLeDiff, Nat.reduceSub, Int.reduceToNat, Int.reduceLE, Int.reduceLT, Int.reduceNeg, Int.reduceBEq, Int.reduceBNe, Nat.reduceMul, Int.reduceAdd, Int.reduceMul, Int.reduceSub, Int.reduceEq, Int.reduceNe]
    (first | refine WF_pure (cAmong w.melt _ ⟨hw.melt.1, hw.melt.2.1, by have := hw.melt; omega⟩ t1.1) rfl ?_ | refine WDQ_pure (cAmong w.melt _ ⟨hw.melt.1, hw.melt.2.1, by have := hw.melt; omega⟩ t1.1) rfl ?_)
    simp (config := { maxSteps := 400000 }) only [hlt, hxx, w1, w2, go_sem, ↓reduceIte, reduceCtorEq, Nat.reduceEqDiff, Nat.reduceAdd, Nat.reduceLT, Nat.reduceLeDiff, Nat.reduceSub, Int.reduceToNat, Int.reduceLE, Int.reduceLT, Int.reduceNeg, Int.reduceBEq, Int.reduceBNe, Nat.reduceMul, Int.reduceAdd, Int.reduceMul, Int.reduceSub, Int.reduceEq, Int.reduceNe]
    (first | refine WF_pure (cTurn x b (2 * done.length + 1) hx hxl) rfl ?_ | refine WDQ_pure (cTurn x b (2 * done.length + 1) hx hxl) rfl ?_)
    simp (config := { maxSteps := 400000 }) only [hlt, hxx, w1, w2, go_sem, ↓reduceIte, reduceCtorEq, Nat.reduceEqDiff, Nat.reduceAdd, Nat.reduceLT, Nat.reduceLeDiff, Nat.reduceSub, Int.reduceToNat, Int.reduceLE, Int.reduceLT, Int.reduceNeg, Int.reduceBEq, Int.reduceBNe, Nat.reduceMul, Int.reduceAdd, Int.reduceMul, Int.reduceSub, Int.reduceEq, Int.reduceNe]
    (first | refine WF_pure (cAmong w.shrink _ ⟨hw.shrink.1, hw.shrink.2.1, by have := hw.shrink; omega⟩ t2.1) rfl ?_ | refine WDQ_pure (cAmong w.shrink _ ⟨hw.shrink.1, hw.shrink.2.1, by have := hw.shrink; omega⟩ t2.1) rfl ?_)
    simp (config := { maxSteps := 400000 }) only [hrm, go_sem, ↓reduceIte, reduceCtorEq, Nat.reduceEqDiff, Nat.reduceAdd, Nat.reduceLT, Nat.reduceLeDiff, Nat.reduceSub, Int.reduceToNat, Int.reduceLE, Int.reduceLT, Int.reduceNeg, Int.reduceBEq, Int.reduceBNe, Nat.reduceMul, Int.reduceAdd, Int.reduceMul, Int.reduceSub, Int.reduceEq, Int.reduceNe]
    refine WQ_next e1 (acc ++ [⟨amongS w.melt (turnS x (2 * done.length)), amongS w.shrink (turnS x (2 * done.length + 1))⟩]) ⟨by rw [e2, lotsGo]; simp, by simp [e3]⟩ ?_
    simp (config := { maxSteps := 400000 }) only [hnx, List.length_append, List.length_singleton, List.map_append, go_sem, ↓reduceIte, reduceCtorEq, Nat.reduceEqDiff, Nat.reduceAdd, Nat.reduceLT, Nat.reduceLeDiff, Nat.reduceSub, Int.reduceToNat, Int.reduceLE, Int.reduceLT, Int.reduceNeg, Int.reduceBEq, Int.reduceBNe, Nat.reduceMul, Int.reduceAdd, Int.reduceMul, Int.reduceSub, Int.reduceEq, Int.reduceNe]
theorem cEndLots (l : List BdWax) (most : Bool) (hl : BdWaxesOk l) : PCall Try.prog 39 [bdWaxes l, .bool most] (.slice 2 ((endLots l most).map BdLot.pv) false) := by
  refine pcall_of_wp_frz draws (fn := Try.f39) (n := 46) (rs := [.tmp 4]) (by kernel_rfl) rfl rfl rfl ok39 (Nat.le_of_ble_eq_true rfl) ?_
  have hl5 := hl.len
  simp (config := { maxSteps := 400000 }) only [go_sem, ↓reduceIte, reduceCtorEq, Nat.reduceEqDiff, Nat.reduceAdd, Nat.reduceLT, Nat.reduceLeDiff, Nat.reduceSub, Int.reduceToNat, Int.reduceLE, Int.reduceLT, Int.reduceNeg, Int.reduceBEq, Int.reduceBNe, Nat.reduceMul, Int.reduceAdd, Int.reduceMul, Int.reduceSub, Int.reduceEq, Int.reduceNe]
  refine W_loop_nil 5 2 (by simp (config := { maxSteps := 400000 }) only [go_sem, ↓reduceIte, reduceCtorEq, Nat.reduceEqDiff, Nat.reduceAdd, Nat.reduceLT, Nat.reduceLeDiff, Nat.reduceSub, Int.reduceToNat, Int.reduceLE, Int.reduceLT, Int.reduceNeg, Int.reduceBEq, Int.reduceBNe, Nat.reduceMul, Int.reduceAdd, Int.reduceMul, Int.reduceSub, Int.reduceEq, Int.reduceNe]) ?_
  simp (config := { maxSteps := 400000 }) only [go_sem, ↓reduceIte, reduceCtorEq, Nat.reduceEqDiff, Nat.reduceAdd, Nat.reduceLT, Nat.reduceLeDiff, Nat.reduceSub, Int.reduceToNat, Int.reduceLE, Int.reduceLT, Int.reduceNeg, Int.reduceBEq, Int.reduceBNe, Nat.reduceMul, Int.reduceAdd, Int.reduceMul, Int.reduceSub, Int.reduceEq, Int.reduceNe]
  refine W_rangeA [0, 1] l (by omega) (τ := Unit) (fun _ _ _ => True) (fun done _ => [(6, .p (.int .i64 done.length)), (5, .slice 0 done.length 0 done.length)]) (fun done _ => [.row 2 ((endLots done most).map fun y => .p y.pv)]) () trivial ?_ ?_ ?_
  · simp (config := { maxSteps := 400000 }) only [endLots, go_sem, ↓reduceIte, reduceCtorEq, Nat.reduceEqDiff, Nat.reduceAdd, Nat.reduceLT, Nat.reduceLeDiff, Nat.reduceSub, Int.reduceToNat, Int.reduceLE, Int.reduceLT, Int.reduceNeg, Int.reduceBEq, Int.reduceBNe, Nat.reduceMul, Int.reduceAdd, Int.reduceMul, Int.reduceSub, Int.reduceEq, Int.reduceNe] <;> simp
  · intro _ _
    have : (endLots l most).length = l.length := by simp [endLots]
    simp (config := { maxSteps := 400000 }) only [this, go_sem, ↓reduceIte, reduceCtorEq, Nat.reduceEqDiff, Nat.reduceAdd, Nat.reduceLT, Nat.reduceLeDiff, Nat.reduceSub, Int.reduceToNat, Int.reduceLE, Int.reduceLT, Int.reduceNeg, Int.reduceBEq, Int.reduceBNe, Nat.reduceMul, Int.reduceAdd, Int.reduceMul, Int.reduceSub, Int.reduceEq, Int.reduceNe]
    rw [List.take_of_length_le (by simp [endLots])]
    rfl
  · rintro done w r _ e1 _ hxx hlt hnx
    have hrm : done.length + 1 ≤ room := by simp [room]; omega
    have hel : (endLots done most).length = done.length := by simp [endLots]
    have hap : endLots (done ++ [w]) most = endLots done most ++ [if most = true then ⟨w.melt.hi, w.shrink.hi⟩ else ⟨w.melt.lo, w.shrink.lo⟩] := by simp [endLots]
    simp (config := { maxSteps := 400000 }) only [hlt, hxx, go_sem, ↓reduceIte, reduceCtorEq, Nat.reduceEqDiff, Nat.reduceAdd, Nat.reduceLT, Nat.reduceLeDiff, Nat.reduceSub, Int.reduceToNat, Int.reduceLE, Int.reduceLT, Int.reduceNeg, Int.reduceBEq, Int.reduceBNe, Nat.reduceMul, Int.reduceAdd, Int.reduceMul, Int.reduceSub, Int.reduceEq, Int.reduceNe]
    cases most
    · simp (config := { maxSteps := 400000 }) only [hrm, hel, go_sem, ↓reduceIte, reduceCtorEq, Nat.reduceEqDiff, Nat.reduceAdd, Nat.reduceLT, Nat.reduceLeDiff, Nat.reduceSub, Int.reduceToNat, Int.reduceLE, Int.reduceLT, Int.reduceNeg, Int.reduceBEq, Int.reduceBNe, Nat.reduceMul, Int.reduceAdd, Int.reduceMul, Int.reduceSub, Int.reduceEq, Int.reduceNe]
      refine WQ_next e1 () trivial ?_
      simp (config := { maxSteps := 400000 }) only [hnx, hap, List.length_append, List.length_singleton, List.map_append, go_sem, ↓reduceIte, reduceCtorEq, Nat.reduceEqDiff, Nat.reduceAdd, Nat.reduceLT, Nat.reduceLeDiff, Nat.reduceSub, Int.reduceToNat, Int.reduceLE, Int.reduceLT, Int.reduceNeg, Int.reduceBEq, Int.reduceBNe, Nat.reduceMul, Int.reduceAdd, Int.reduceMul, Int.reduceSub, Int.reduceEq, Int.reduceNe]
    · simp (config := { maxSteps := 400000 }) only [hlt, hxx, hrm, hel, go_sem, ↓reduceIte, reduceCtorEq, Nat.reduceEqDiff, Nat.reduceAdd, Nat.reduceLT, Nat.reduceLeDiff, Nat.reduceSub, Int.reduceToNat, Int.reduceLE, Int.reduceLT, Int.reduceNeg, Int.reduceBEq, Int.reduceBNe, Nat.reduceMul, Int.reduceAdd, Int.reduceMul, Int.reduceSub, Int.reduceEq, Int.reduceNe]
      refine WQ_next e1 () trivial ?_
      simp (config := { maxSteps := 400000 }) only [hnx, hap, List.length_append, List.length_singleton, List.map_append, go_sem, ↓reduceIte, reduceCtorEq, Nat.reduceEqDiff, Nat.reduceAdd, Nat.reduceLT, Nat.reduceLeDiff, Nat.reduceSub, Int.reduceToNat, Int.reduceLE, Int.reduceLT, Int.reduceNeg, Int.reduceBEq, Int.reduceBNe, Nat.reduceMul, Int.reduceAdd, Int.reduceMul, Int.reduceSub, Int.reduceEq, Int.reduceNe]
end Abs
end Go.Proofs.Ythekmbikolpmlaa
