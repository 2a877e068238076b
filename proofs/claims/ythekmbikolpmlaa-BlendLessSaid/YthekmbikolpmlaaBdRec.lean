/-
  CONTRACTS: all recipes, those that fit a wish; in the reference; and the program's iterator over them.
-/
import Derived.Test.YthekmbikolpmlaaBdMade
namespace Go.Proofs.Ythekmbikolpmlaa
namespace Abs
set_option linter.unusedSimpArgs false
set_option maxRecDepth 4000

/-! numbers from one to another -/
def ups (a b : Int) : List Int := (List.range (b + 1 - a).toNat).map fun (i : Nat) => a + (i : Int)
theorem ups_len (a b : Int) : (ups a b).length = (b + 1 - a).toNat := by simp [ups]
theorem ups_get {a b y : Int} {i : Nat} (h : (ups a b)[i]? = some y) : y = a + (i : Int) ∧ y ≤ b := by
  unfold ups at h
  rw [List.getElem?_map, Option.map_eq_some_iff] at h
  obtain ⟨k, h1, rfl⟩ := h
  obtain ⟨h2, h3⟩ := List.getElem?_eq_some_iff.1 h1
  simp at h2 h3
  subst h3
  exact ⟨rfl, by omega⟩
theorem mem_ups {a b y : Int} : y ∈ ups a b ↔ a ≤ y ∧ y ≤ b := by
  unfold ups
  rw [List.mem_map]
  constructor
  · rintro ⟨i, hi, rfl⟩
    rw [List.mem_range] at hi
    omega
  · rintro ⟨h1, h2⟩
    exact ⟨(y - a).toNat, by rw [List.mem_range]; omega, by omega⟩

/-! all recipes -/
def recs : Nat → Int → List (List Int)
  | 0, left => [[left]]
  | k + 1, left => (ups 0 left).flatMap fun n => (recs k (left - n)).map (n :: ·)
theorem recs_len : ∀ (k : Nat) (left : Int), left ≤ 20 → (recs k left).length ≤ 21 ^ k
  | 0, _, _ => by simp [recs]
  | k + 1, left, h => by
    have key : ∀ l : List Int, (∀ n, n ∈ l → 0 ≤ n) → (l.flatMap fun n => (recs k (left - n)).map (n :: ·)).length ≤ l.length * 21 ^ k := by
      intro l
      induction l with
      | nil => intro _; simp
      | cons n l ih =>
        intro hl
        have h1 := ih fun m hm => hl m (by simp [hm])
        have h2 := recs_len k (left - n) (by have := hl n (by simp); omega)
        simp only [List.flatMap_cons, List.length_append, List.length_map, List.length_cons, Nat.add_mul, Nat.one_mul]
        omega
    have h1 := key (ups 0 left) fun n hn => (mem_ups.1 hn).1
    have h2 : (ups 0 left).length ≤ 21 := by rw [ups_len]; omega
    have h3 : (ups 0 left).length * 21 ^ k ≤ 21 * 21 ^ k := Nat.mul_le_mul_right _ h2
    rw [recs, Nat.pow_succ]
    omega
theorem recs_ok : ∀ (k : Nat) (left : Int) (r : List Int), 0 ≤ left → r ∈ recs k left → r.length = k + 1 ∧ (∀ n, n ∈ r → 0 ≤ n ∧ n ≤ left) ∧ r.sum = left
  | 0, left, r, h0, h => by
    simp [recs] at h
    subst h
    refine ⟨rfl, fun n hn => ?_, by simp⟩
    simp at hn
    omega
  | k + 1, left, r, h0, h => by
    rw [recs, List.mem_flatMap] at h
    obtain ⟨n, hn, h⟩ := h
    rw [List.mem_map] at h
    obtain ⟨t, ht, rfl⟩ := h
    have hn' := mem_ups.1 hn
    obtain ⟨h1, h2, h3⟩ := recs_ok k (left - n) t (by omega) ht
    refine ⟨by simp [h1], fun m hm => ?_, by simp [h3]; omega⟩
    rcases List.mem_cons.1 hm with rfl | hm
    · omega
    · have := h2 m hm; omega
theorem recs_all : ∀ (k : Nat) (left : Int) (r : List Int), r.length = k + 1 → (∀ n, n ∈ r → 0 ≤ n) → r.sum = left → r ∈ recs k left
  | 0, left, r, h1, _, h3 => by
    match r, h1 with
    | [n], _ => simp at h3; simp [recs, h3]
  | k + 1, left, r, h1, h2, h3 => by
    match r, h1 with
    | n :: t, h1 =>
      have h1' : t.length = k + 1 := by simpa using h1
      have ht : 0 ≤ t.sum := by
        have : ∀ l : List Int, (∀ n, n ∈ l → 0 ≤ n) → 0 ≤ l.sum := by
          intro l
          induction l with
          | nil => simp
          | cons a l ih => intro h; have := ih fun n hn => h n (by simp [hn]); have := h a (by simp); simp; omega
        exact this t fun m hm => h2 m (by simp [hm])
      have h3' : n + t.sum = left := by simpa using h3
      rw [recs, List.mem_flatMap]
      refine ⟨n, mem_ups.2 ⟨h2 n (by simp), by omega⟩, List.mem_map.2 ⟨t, recs_all k (left - n) t h1' (fun m hm => h2 m (by simp [hm])) (by omega), rfl⟩⟩
theorem frzList_app (n : Nat) (h : Heap) (m : List AV) : ∀ l : List PV, frzList (frzN n h) (l.map .p ++ m) = (frzList (frzN n h) m).map (l ++ ·)
  | [] => by cases hf : frzList (frzN n h) m <;> simp [hf]
  | x :: r => by
    rw [List.map_cons, List.cons_append, frzList, frzList_app n h m r, frzN_p]
    cases frzList (frzN n h) m <;> rfl
theorem take_app1 {α β : Type} (f : α → β) (l : List α) (x : β) : (l.map f ++ [x]).take (l.length + 1) = l.map f ++ [x] := List.take_of_length_le (by simp)
attribute [go_sem] frzList_app take_app1
def recsPV (ls : List (List Int)) : PV := .slice 1 (ls.map fun r => .slice 1 (r.map intPV) false) false
attribute [go_sem] recsPV
set_option maxHeartbeats 1000000 in
theorem cRecipes : ∀ (k : Nat) (begin : List Int) (left : Int) (b : Bool), 0 ≤ left → left ≤ 20 → k ≤ 4 → begin.length + k ≤ 100 →
    PCall Try.prog 97 [.int .i64 ((k + 1 : Nat) : Int), .slice 1 (begin.map intPV) b, .int .i64 left] (recsPV ((recs k left).map (begin ++ ·)))
  | 0, begin, left, b, h0, h1, hk, hb => by
    refine pcall_of_wp_frz draws (fn := Try.f97) (n := 38) (rs := [.tmp 6]) (by kernel_rfl) rfl rfl rfl ok97 (Nat.le_of_ble_eq_true rfl) ?_
    have z0 : (0 : Nat) ≤ room := Nat.zero_le _
    have z1 : (1 : Nat) ≤ room := by simp [room]
    simp (config := { maxSteps := 400000 }) only [go_sem, ↓reduceIte, reduceCtorEq, Nat.reduceEqDiff, Nat.reduceAdd, Nat.reduceLT, Nat.reduceLeDiff, Nat.reduceSub, Int.reduceToNat, Int.reduceLE, Int.reduceLT, Int.reduceNeg, Int.reduceBEq, Int.reduceBNe, Nat.reduceMul, Int.reduceAdd, Int.reduceMul, Int.reduceSub, Int.reduceEq, Int.reduceNe]
    cases begin with
    | nil =>
      simp (config := { maxSteps := 400000 }) only [z0, z1, recs, Int.natCast_add, Int.natCast_zero, Int.zero_add, Int.natCast_one, go_sem, ↓reduceIte, reduceCtorEq, Nat.reduceEqDiff, Nat.reduceAdd, Nat.reduceLT, Nat.reduceLeDiff, Nat.reduceSub, Int.reduceToNat, Int.reduceLE, Int.reduceLT, Int.reduceNeg, Int.reduceBEq, Int.reduceBNe, Nat.reduceMul, Int.reduceAdd, Int.reduceMul, Int.reduceSub, Int.reduceEq, Int.reduceNe]
    | cons c cs =>
      simp only [List.length_cons] at hb
      have y1 : cs.length + 1 ≤ room := by simp [room]; omega
      have y2 : cs.length + 1 + 1 ≤ room := by simp [room]; omega
      simp (config := { maxSteps := 400000 }) only [y1, y2, recs, Int.natCast_add, Int.natCast_zero, Int.zero_add, Int.natCast_one, List.length_append, List.map_append, go_sem, ↓reduceIte, reduceCtorEq, Nat.reduceEqDiff, Nat.reduceAdd, Nat.reduceLT, Nat.reduceLeDiff, Nat.reduceSub, Int.reduceToNat, Int.reduceLE, Int.reduceLT, Int.reduceNeg, Int.reduceBEq, Int.reduceBNe, Nat.reduceMul, Int.reduceAdd, Int.reduceMul, Int.reduceSub, Int.reduceEq, Int.reduceNe]
  | k + 1, begin, left, b, h0, h1, hk, hb => by
    refine pcall_of_wp_frzN draws (fn := Try.f97) (n := 38) (rs := [.tmp 6]) (by kernel_rfl) rfl rfl rfl ok97 (Nat.le_of_ble_eq_true rfl) ?_
    have hm : (((k + 1 + 1 : Nat) : Int) == 1) = false := by simp <;> omega
    have z0 : (0 : Nat) ≤ room := Nat.zero_le _
    have z1 : (1 : Nat) ≤ room := by simp [room]
    have hk1 : IntKind.i64.wrap (((k + 1 + 1 : Nat) : Int) - 1) = ((k + 1 : Nat) : Int) := by rw [wrap_small (by omega) (by simp [room]; omega)]; omega
    have hp : 21 ^ k ≤ 194481 := by
      have := Nat.pow_le_pow_right (n := 21) (by omega) (show k ≤ 4 by omega)
      simpa using this
    simp (config := { maxSteps := 400000 }) only [hm, go_sem, ↓reduceIte, reduceCtorEq, Nat.reduceEqDiff, Nat.reduceAdd, Nat.reduceLT, Nat.reduceLeDiff, Nat.reduceSub, Int.reduceToNat, Int.reduceLE, Int.reduceLT, Int.reduceNeg, Int.reduceBEq, Int.reduceBNe, Nat.reduceMul, Int.reduceAdd, Int.reduceMul, Int.reduceSub, Int.reduceEq, Int.reduceNe]
    refine W_loop_nil 7 1 (by simp (config := { maxSteps := 400000 }) only [go_sem, ↓reduceIte, reduceCtorEq, Nat.reduceEqDiff, Nat.reduceAdd, Nat.reduceLT, Nat.reduceLeDiff, Nat.reduceSub, Int.reduceToNat, Int.reduceLE, Int.reduceLT, Int.reduceNeg, Int.reduceBEq, Int.reduceBNe, Nat.reduceMul, Int.reduceAdd, Int.reduceMul, Int.reduceSub, Int.reduceEq, Int.reduceNe]) ?_
    simp (config := { maxSteps := 400000 }) only [go_sem, ↓reduceIte, reduceCtorEq, Nat.reduceEqDiff, Nat.reduceAdd, Nat.reduceLT, Nat.reduceLeDiff, Nat.reduceSub, Int.reduceToNat, Int.reduceLE, Int.reduceLT, Int.reduceNeg, Int.reduceBEq, Int.reduceBNe, Nat.reduceMul, Int.reduceAdd, Int.reduceMul, Int.reduceSub, Int.reduceEq, Int.reduceNe]
    refine W_rangeA [0, 1, 2] (ups 0 left) (by rw [ups_len]; omega) (τ := List (List Int)) (fun done rest acc => acc = (done.flatMap fun n => (recs k (left - n)).map (n :: ·)) ∧ acc.length ≤ done.length * 194481)
      (fun done acc => [(8, .p (.int .i64 done.length)), (7, .slice 0 acc.length 0 acc.length)]) (fun _ acc => [.row 1 (acc.map fun r => .p (.slice 1 ((begin ++ r).map intPV) false))]) [] ⟨rfl, by simp⟩ ?_ ?_ ?_
    · simp (config := { maxSteps := 400000 }) only [go_sem, ↓reduceIte, reduceCtorEq, Nat.reduceEqDiff, Nat.reduceAdd, Nat.reduceLT, Nat.reduceLeDiff, Nat.reduceSub, Int.reduceToNat, Int.reduceLE, Int.reduceLT, Int.reduceNeg, Int.reduceBEq, Int.reduceBNe, Nat.reduceMul, Int.reduceAdd, Int.reduceMul, Int.reduceSub, Int.reduceEq, Int.reduceNe] <;> simp
    · rintro acc ⟨e2, _⟩
      have hlt : ¬ (((ups 0 left).length : Nat) : Int) ≤ left := by rw [ups_len]; omega
      simp (config := { maxSteps := 400000 }) only [hlt, go_sem, ↓reduceIte, reduceCtorEq, Nat.reduceEqDiff, Nat.reduceAdd, Nat.reduceLT, Nat.reduceLeDiff, Nat.reduceSub, Int.reduceToNat, Int.reduceLE, Int.reduceLT, Int.reduceNeg, Int.reduceBEq, Int.reduceBNe, Nat.reduceMul, Int.reduceAdd, Int.reduceMul, Int.reduceSub, Int.reduceEq, Int.reduceNe]
      have e3 : recs (k + 1) left = acc := by rw [recs, e2]
      rw [e3]
      simp only [List.map_map, Function.comp_def]
      first | exact .inl (.inl rfl) | exact .inl (.inr ⟨rfl, 1, rfl⟩) | exact .inr ⟨_, _, rfl, rfl, .inl rfl, .inl rfl, trivial⟩ | exact .inr ⟨_, _, rfl, rfl, .inr ⟨rfl, 1, rfl⟩, .inl rfl, trivial⟩ | exact ⟨1, rfl⟩ | (simp; done) | (refine .inr ⟨_, _, rfl, rfl, ?_⟩; repeat' (first | exact trivial | exact .inl rfl | exact .inr ⟨rfl, 1, rfl⟩ | refine ⟨?_, ?_⟩))
    · rintro done y rest acc e1 ⟨e2, e3⟩ hx hlt hnx
      obtain ⟨hy, hyl⟩ := ups_get hx
      rw [Int.zero_add] at hy
      have hle : ((done.length : Nat) : Int) ≤ left := by omega
      have hw : IntKind.i64.wrap (left - ((done.length : Nat) : Int)) = left - ((done.length : Nat) : Int) := wrap_in (by omega) (by omega)
      have hrl := recs_len k (left - (done.length : Int)) (by omega)
      have hdl : done.length ≤ 20 := by omega
      have hroom : acc.length + (recs k (left - (done.length : Int))).length ≤ room := by
        have : done.length * 194481 ≤ 20 * 194481 := Nat.mul_le_mul_right _ hdl
        simp [room]; omega
      have ih := cRecipes k (begin ++ [(done.length : Int)]) (left - (done.length : Int)) false (by omega) (by omega) (by omega) (by simp; omega)
      cases begin with
      | nil =>
        simp (config := { maxSteps := 400000 }) only [hle, z0, z1, hk1, hw, go_sem, ↓reduceIte, reduceCtorEq, Nat.reduceEqDiff, Nat.reduceAdd, Nat.reduceLT, Nat.reduceLeDiff, Nat.reduceSub, Int.reduceToNat, Int.reduceLE, Int.reduceLT, Int.reduceNeg, Int.reduceBEq, Int.reduceBNe, Nat.reduceMul, Int.reduceAdd, Int.reduceMul, Int.reduceSub, Int.reduceEq, Int.reduceNe]
        refine WF_kill ih 1 1 [intPV done.length] ?_ ?_ ?_ ?_
        · simp (config := { maxSteps := 400000 }) only [go_sem, ↓reduceIte, reduceCtorEq, Nat.reduceEqDiff, Nat.reduceAdd, Nat.reduceLT, Nat.reduceLeDiff, Nat.reduceSub, Int.reduceToNat, Int.reduceLE, Int.reduceLT, Int.reduceNeg, Int.reduceBEq, Int.reduceBNe, Nat.reduceMul, Int.reduceAdd, Int.reduceMul, Int.reduceSub, Int.reduceEq, Int.reduceNe]
        · simp (config := { maxSteps := 400000 }) only [go_sem, ↓reduceIte, reduceCtorEq, Nat.reduceEqDiff, Nat.reduceAdd, Nat.reduceLT, Nat.reduceLeDiff, Nat.reduceSub, Int.reduceToNat, Int.reduceLE, Int.reduceLT, Int.reduceNeg, Int.reduceBEq, Int.reduceBNe, Nat.reduceMul, Int.reduceAdd, Int.reduceMul, Int.reduceSub, Int.reduceEq, Int.reduceNe]
        · simp (config := { maxSteps := 400000 }) only [go_sem, ↓reduceIte, reduceCtorEq, Nat.reduceEqDiff, Nat.reduceAdd, Nat.reduceLT, Nat.reduceLeDiff, Nat.reduceSub, Int.reduceToNat, Int.reduceLE, Int.reduceLT, Int.reduceNeg, Int.reduceBEq, Int.reduceBNe, Nat.reduceMul, Int.reduceAdd, Int.reduceMul, Int.reduceSub, Int.reduceEq, Int.reduceNe]
        simp (config := { maxSteps := 400000 }) only [hroom, go_sem, ↓reduceIte, reduceCtorEq, Nat.reduceEqDiff, Nat.reduceAdd, Nat.reduceLT, Nat.reduceLeDiff, Nat.reduceSub, Int.reduceToNat, Int.reduceLE, Int.reduceLT, Int.reduceNeg, Int.reduceBEq, Int.reduceBNe, Nat.reduceMul, Int.reduceAdd, Int.reduceMul, Int.reduceSub, Int.reduceEq, Int.reduceNe]
        have e4 : acc ++ (recs k (left - (done.length : Int))).map ((done.length : Int) :: ·) = ((done ++ [y]).flatMap fun n => (recs k (left - n)).map (n :: ·)) := by rw [e2, hy]; simp
        refine WQ_next e1 (acc ++ (recs k (left - (done.length : Int))).map ((done.length : Int) :: ·)) ⟨e4, by simp; omega⟩ ?_
        simp (config := { maxSteps := 400000 }) only [hnx, List.length_append, List.map_append, List.map_map, Function.comp_def, go_sem, ↓reduceIte, reduceCtorEq, Nat.reduceEqDiff, Nat.reduceAdd, Nat.reduceLT, Nat.reduceLeDiff, Nat.reduceSub, Int.reduceToNat, Int.reduceLE, Int.reduceLT, Int.reduceNeg, Int.reduceBEq, Int.reduceBNe, Nat.reduceMul, Int.reduceAdd, Int.reduceMul, Int.reduceSub, Int.reduceEq, Int.reduceNe]
      | cons c cs =>
        simp only [List.length_cons] at hb
        have y1 : cs.length + 1 ≤ room := by simp [room]; omega
        have y2 : cs.length + 1 + 1 ≤ room := by simp [room]; omega
        simp (config := { maxSteps := 400000 }) only [hle, y1, y2, hk1, hw, go_sem, ↓reduceIte, reduceCtorEq, Nat.reduceEqDiff, Nat.reduceAdd, Nat.reduceLT, Nat.reduceLeDiff, Nat.reduceSub, Int.reduceToNat, Int.reduceLE, Int.reduceLT, Int.reduceNeg, Int.reduceBEq, Int.reduceBNe, Nat.reduceMul, Int.reduceAdd, Int.reduceMul, Int.reduceSub, Int.reduceEq, Int.reduceNe]
        refine WF_kill ih 1 1 ((c :: cs ++ [(done.length : Int)]).map intPV) ?_ ?_ ?_ ?_
        · simp (config := { maxSteps := 400000 }) only [List.map_append, go_sem, ↓reduceIte, reduceCtorEq, Nat.reduceEqDiff, Nat.reduceAdd, Nat.reduceLT, Nat.reduceLeDiff, Nat.reduceSub, Int.reduceToNat, Int.reduceLE, Int.reduceLT, Int.reduceNeg, Int.reduceBEq, Int.reduceBNe, Nat.reduceMul, Int.reduceAdd, Int.reduceMul, Int.reduceSub, Int.reduceEq, Int.reduceNe]
        · simp (config := { maxSteps := 400000 }) only [go_sem, ↓reduceIte, reduceCtorEq, Nat.reduceEqDiff, Nat.reduceAdd, Nat.reduceLT, Nat.reduceLeDiff, Nat.reduceSub, Int.reduceToNat, Int.reduceLE, Int.reduceLT, Int.reduceNeg, Int.reduceBEq, Int.reduceBNe, Nat.reduceMul, Int.reduceAdd, Int.reduceMul, Int.reduceSub, Int.reduceEq, Int.reduceNe]
        · simp (config := { maxSteps := 400000 }) only [List.map_append, List.length_append, go_sem, ↓reduceIte, reduceCtorEq, Nat.reduceEqDiff, Nat.reduceAdd, Nat.reduceLT, Nat.reduceLeDiff, Nat.reduceSub, Int.reduceToNat, Int.reduceLE, Int.reduceLT, Int.reduceNeg, Int.reduceBEq, Int.reduceBNe, Nat.reduceMul, Int.reduceAdd, Int.reduceMul, Int.reduceSub, Int.reduceEq, Int.reduceNe]
        simp (config := { maxSteps := 400000 }) only [hroom, go_sem, ↓reduceIte, reduceCtorEq, Nat.reduceEqDiff, Nat.reduceAdd, Nat.reduceLT, Nat.reduceLeDiff, Nat.reduceSub, Int.reduceToNat, Int.reduceLE, Int.reduceLT, Int.reduceNeg, Int.reduceBEq, Int.reduceBNe, Nat.reduceMul, Int.reduceAdd, Int.reduceMul, Int.reduceSub, Int.reduceEq, Int.reduceNe]
        have e4 : acc ++ (recs k (left - (done.length : Int))).map ((done.length : Int) :: ·) = ((done ++ [y]).flatMap fun n => (recs k (left - n)).map (n :: ·)) := by rw [e2, hy]; simp
        refine WQ_next e1 (acc ++ (recs k (left - (done.length : Int))).map ((done.length : Int) :: ·)) ⟨e4, by simp; omega⟩ ?_
        simp (config := { maxSteps := 400000 }) only [hnx, List.length_append, List.map_append, List.map_map, Function.comp_def, List.append_assoc, go_sem, ↓reduceIte, reduceCtorEq, Nat.reduceEqDiff, Nat.reduceAdd, Nat.reduceLT, Nat.reduceLeDiff, Nat.reduceSub, Int.reduceToNat, Int.reduceLE, Int.reduceLT, Int.reduceNeg, Int.reduceBEq, Int.reduceBNe, Nat.reduceMul, Int.reduceAdd, Int.reduceMul, Int.reduceSub, Int.reduceEq, Int.reduceNe]

/-! those that fit -/
def fits (l : List BdWax) (w : BdWish) : List (List Int) := (recs (l.length - 1) 20).filter fun r => whyS l w r == 0
theorem recs_rec {l : List BdWax} (hl : BdWaxesOk l) {r : List Int} (h : r ∈ recs (l.length - 1) 20) : RecOk l.length r := by
  obtain ⟨h1, h2, h3⟩ := recs_ok _ _ _ (by omega) h
  have := hl.len
  exact ⟨by omega, h2, h3⟩
theorem fits_rec {l : List BdWax} {w : BdWish} (hl : BdWaxesOk l) {r : List Int} (h : r ∈ fits l w) : RecOk l.length r ∧ whyS l w r = 0 := by
  obtain ⟨h1, h2⟩ := List.mem_filter.1 h
  exact ⟨recs_rec hl h1, by simpa using h2⟩
theorem recs_small {l : List BdWax} (hl : BdWaxesOk l) : (recs (l.length - 1) 20).length ≤ 194481 := by
  have h1 := recs_len (l.length - 1) 20 (by omega)
  have h2 : 21 ^ (l.length - 1) ≤ 21 ^ 4 := Nat.pow_le_pow_right (by omega) (by have := hl.len; omega)
  have h3 : (21 : Nat) ^ 4 = 194481 := rfl
  omega
theorem fits_small {l : List BdWax} (w : BdWish) (hl : BdWaxesOk l) : (fits l w).length ≤ 194481 := Nat.le_trans (List.length_filter_le _ _) (recs_small hl)
theorem cRefFitting (l : List BdWax) (w : BdWish) (hl : BdWaxesOk l) (hw : WishOk l.length w) : PCall Try.prog 76 [bdWaxes l, w.pv] (recsPV (fits l w)) := by
  refine pcall_of_wp_frzN draws (fn := Try.f76) (n := 33) (rs := [.tmp 4]) (by kernel_rfl) rfl rfl rfl ok76 (Nat.le_of_ble_eq_true rfl) ?_
  have hlen := hl.len
  have hrs := recs_small hl
  have hk : ((l.length : Nat) : Int) = ((l.length - 1 + 1 : Nat) : Int) := by omega
  simp (config := { maxSteps := 400000 }) only [go_sem, ↓reduceIte, reduceCtorEq, Nat.reduceEqDiff, Nat.reduceAdd, Nat.reduceLT, Nat.reduceLeDiff, Nat.reduceSub, Int.reduceToNat, Int.reduceLE, Int.reduceLT, Int.reduceNeg, Int.reduceBEq, Int.reduceBNe, Nat.reduceMul, Int.reduceAdd, Int.reduceMul, Int.reduceSub, Int.reduceEq, Int.reduceNe]
  refine WF_pure (PCall.argless (args' := [.int .i64 l.length, .nilslice, .int .i64 20]) (cRecipes (l.length - 1) [] 20 false (by omega) (by omega) (by omega) (by simp; omega)) ⟨.inl (by rw [hk]), .inr ⟨rfl, 1, rfl⟩, .inl rfl, trivial⟩) rfl ?_
  simp only [List.nil_append, List.map_id']
  simp (config := { maxSteps := 400000 }) only [go_sem, ↓reduceIte, reduceCtorEq, Nat.reduceEqDiff, Nat.reduceAdd, Nat.reduceLT, Nat.reduceLeDiff, Nat.reduceSub, Int.reduceToNat, Int.reduceLE, Int.reduceLT, Int.reduceNeg, Int.reduceBEq, Int.reduceBNe, Nat.reduceMul, Int.reduceAdd, Int.reduceMul, Int.reduceSub, Int.reduceEq, Int.reduceNe]
  refine W_loop_nil 6 1 (by simp (config := { maxSteps := 400000 }) only [go_sem, ↓reduceIte, reduceCtorEq, Nat.reduceEqDiff, Nat.reduceAdd, Nat.reduceLT, Nat.reduceLeDiff, Nat.reduceSub, Int.reduceToNat, Int.reduceLE, Int.reduceLT, Int.reduceNeg, Int.reduceBEq, Int.reduceBNe, Nat.reduceMul, Int.reduceAdd, Int.reduceMul, Int.reduceSub, Int.reduceEq, Int.reduceNe]) ?_
  simp (config := { maxSteps := 400000 }) only [go_sem, ↓reduceIte, reduceCtorEq, Nat.reduceEqDiff, Nat.reduceAdd, Nat.reduceLT, Nat.reduceLeDiff, Nat.reduceSub, Int.reduceToNat, Int.reduceLE, Int.reduceLT, Int.reduceNeg, Int.reduceBEq, Int.reduceBNe, Nat.reduceMul, Int.reduceAdd, Int.reduceMul, Int.reduceSub, Int.reduceEq, Int.reduceNe]
  refine W_rangeA [0, 3, 5] (recs (l.length - 1) 20) (by omega) (τ := List (List Int)) (fun done rest acc => fits l w = acc ++ rest.filter (fun r => whyS l w r == 0) ∧ acc.length ≤ done.length)
    (fun done acc => [(7, .p (.int .i64 done.length)), (6, .slice 1 acc.length 0 acc.length)]) (fun _ acc => [.row 5 [.p w.pv], .row 1 (acc.map fun r => .p (.slice 1 (r.map intPV) false))]) [] ⟨rfl, by simp⟩ ?_ ?_ ?_
  · simp (config := { maxSteps := 400000 }) only [go_sem, ↓reduceIte, reduceCtorEq, Nat.reduceEqDiff, Nat.reduceAdd, Nat.reduceLT, Nat.reduceLeDiff, Nat.reduceSub, Int.reduceToNat, Int.reduceLE, Int.reduceLT, Int.reduceNeg, Int.reduceBEq, Int.reduceBNe, Nat.reduceMul, Int.reduceAdd, Int.reduceMul, Int.reduceSub, Int.reduceEq, Int.reduceNe] <;> simp
  · rintro acc ⟨e2, _⟩
    simp only [List.filter_nil, List.append_nil] at e2
    simp (config := { maxSteps := 400000 }) only [go_sem, ↓reduceIte, reduceCtorEq, Nat.reduceEqDiff, Nat.reduceAdd, Nat.reduceLT, Nat.reduceLeDiff, Nat.reduceSub, Int.reduceToNat, Int.reduceLE, Int.reduceLT, Int.reduceNeg, Int.reduceBEq, Int.reduceBNe, Nat.reduceMul, Int.reduceAdd, Int.reduceMul, Int.reduceSub, Int.reduceEq, Int.reduceNe]
    rw [e2]
    first | exact .inl (.inl rfl) | exact .inl (.inr ⟨rfl, 1, rfl⟩) | exact .inr ⟨_, _, rfl, rfl, .inl rfl, .inl rfl, trivial⟩ | exact .inr ⟨_, _, rfl, rfl, .inr ⟨rfl, 1, rfl⟩, .inl rfl, trivial⟩ | exact ⟨1, rfl⟩ | (simp; done) | (refine .inr ⟨_, _, rfl, rfl, ?_⟩; repeat' (first | exact trivial | exact .inl rfl | exact .inr ⟨rfl, 1, rfl⟩ | refine ⟨?_, ?_⟩))
  · rintro done r rest acc e1 ⟨e2, e3⟩ hx hlt hnx
    have hro := recs_rec hl (by rw [e1]; simp : r ∈ recs (l.length - 1) 20)
    have hdl : done.length < 194481 := by omega
    have hrm : acc.length + 1 ≤ room := by simp [room]; omega
    rw [List.filter_cons] at e2
    simp (config := { maxSteps := 400000 }) only [hlt, hx, go_sem, ↓reduceIte, reduceCtorEq, Nat.reduceEqDiff, Nat.reduceAdd, Nat.reduceLT, Nat.reduceLeDiff, Nat.reduceSub, Int.reduceToNat, Int.reduceLE, Int.reduceLT, Int.reduceNeg, Int.reduceBEq, Int.reduceBNe, Nat.reduceMul, Int.reduceAdd, Int.reduceMul, Int.reduceSub, Int.reduceEq, Int.reduceNe]
    (first | refine WF_pure (cWhy1 false hl hw hro.len hro.rng) rfl ?_ | refine WDQ_pure (cWhy1 false hl hw hro.len hro.rng) rfl ?_)
    simp (config := { maxSteps := 400000 }) only [go_sem, ↓reduceIte, reduceCtorEq, Nat.reduceEqDiff, Nat.reduceAdd, Nat.reduceLT, Nat.reduceLeDiff, Nat.reduceSub, Int.reduceToNat, Int.reduceLE, Int.reduceLT, Int.reduceNeg, Int.reduceBEq, Int.reduceBNe, Nat.reduceMul, Int.reduceAdd, Int.reduceMul, Int.reduceSub, Int.reduceEq, Int.reduceNe]
    cases hb : (whyS l w r == 0)
    · simp (config := { maxSteps := 400000 }) only [go_sem, ↓reduceIte, reduceCtorEq, Nat.reduceEqDiff, Nat.reduceAdd, Nat.reduceLT, Nat.reduceLeDiff, Nat.reduceSub, Int.reduceToNat, Int.reduceLE, Int.reduceLT, Int.reduceNeg, Int.reduceBEq, Int.reduceBNe, Nat.reduceMul, Int.reduceAdd, Int.reduceMul, Int.reduceSub, Int.reduceEq, Int.reduceNe]
      refine WQ_next e1 acc ⟨by rw [e2, hb]; rfl, by simp; omega⟩ ?_
      simp (config := { maxSteps := 400000 }) only [hnx, go_sem, ↓reduceIte, reduceCtorEq, Nat.reduceEqDiff, Nat.reduceAdd, Nat.reduceLT, Nat.reduceLeDiff, Nat.reduceSub, Int.reduceToNat, Int.reduceLE, Int.reduceLT, Int.reduceNeg, Int.reduceBEq, Int.reduceBNe, Nat.reduceMul, Int.reduceAdd, Int.reduceMul, Int.reduceSub, Int.reduceEq, Int.reduceNe]
    · simp (config := { maxSteps := 400000 }) only [hlt, hx, hrm, go_sem, ↓reduceIte, reduceCtorEq, Nat.reduceEqDiff, Nat.reduceAdd, Nat.reduceLT, Nat.reduceLeDiff, Nat.reduceSub, Int.reduceToNat, Int.reduceLE, Int.reduceLT, Int.reduceNeg, Int.reduceBEq, Int.reduceBNe, Nat.reduceMul, Int.reduceAdd, Int.reduceMul, Int.reduceSub, Int.reduceEq, Int.reduceNe]
      refine WQ_next e1 (acc ++ [r]) ⟨by rw [e2, hb]; simp, by simp; omega⟩ ?_
      simp (config := { maxSteps := 400000 }) only [hnx, List.length_append, List.map_append, go_sem, ↓reduceIte, reduceCtorEq, Nat.reduceEqDiff, Nat.reduceAdd, Nat.reduceLT, Nat.reduceLeDiff, Nat.reduceSub, Int.reduceToNat, Int.reduceLE, Int.reduceLT, Int.reduceNeg, Int.reduceBEq, Int.reduceBNe, Nat.reduceMul, Int.reduceAdd, Int.reduceMul, Int.reduceSub, Int.reduceEq, Int.reduceNe]
end Abs
end Go.Proofs.Ythekmbikolpmlaa
