/-
  CONTRACTS OF THE LAWS: WickTurned.
  CONTRACTS OF THE LAWS: the walk of WickTurned.
-/
import Derived.Test.YtdgmmijimclooaaWkLaw5
import Derived.Test.YtdgmmijimclooaaAbsInv
namespace Go.Proofs.Ytdgmmijimclooaa
namespace Abs
set_option linter.unusedSimpArgs false
set_option maxRecDepth 4000

/-! a list, turned -/
def rot {α : Type} (l : List α) (b : Nat) : List α := l.drop (b % l.length) ++ l.take (b % l.length)
theorem rot_perm {α : Type} (l : List α) (b : Nat) : (rot l b).Perm l := by
  unfold rot
  refine List.perm_append_comm.trans ?_
  rw [List.take_append_drop]
theorem rot_len {α : Type} (l : List α) (b : Nat) : (rot l b).length = l.length := (rot_perm l b).length_eq
theorem rot_at {α : Type} (l : List α) (b i : Nat) (h : i < l.length) : (rot l b)[i]? = l[(i + b) % l.length]? := by
  have hr : b % l.length < l.length := Nat.mod_lt _ (by omega)
  have e : (i + b) % l.length = (i + b % l.length) % l.length := by simp
  rw [e]
  unfold rot
  generalize b % l.length = r at *
  rcases Nat.lt_or_ge (i + r) l.length with h1 | h1
  · rw [Nat.mod_eq_of_lt h1, List.getElem?_append_left (by simp; omega), List.getElem?_drop, Nat.add_comm]
  · rw [List.getElem?_append_right (by simp; omega), Nat.mod_eq_sub_mod h1, Nat.mod_eq_of_lt (by omega), List.getElem?_take, if_pos (by simp; omega)]
    congr 1
    simp
    omega

/-! a shop's wicks in another order -/
theorem beqB {x y : ByteArray} : (x == y) = true ↔ x = y := by
  cases x with
  | mk a =>
    cases y with
    | mk b =>
      show (a == b) = true ↔ _
      rw [beq_iff_eq, ByteArray.mk.injEq]
theorem named_iff {b : List ByteArray} {s : ByteArray} : namedErr b s = 0 ↔ nameOk s = true ∧ s ∉ b := by
  unfold namedErr
  have ha : b.any (fun t => t == s) = true ↔ s ∈ b := by
    rw [List.any_eq_true]
    constructor
    · rintro ⟨x, hx, h⟩; rw [beqB] at h; rw [← h]; exact hx
    · intro h; exact ⟨s, h, beqB.2 rfl⟩
  split
  · rename_i h
    split
    · rename_i h2
      rw [ha] at h2
      simp [h2]
    · rename_i h2
      rw [ha] at h2
      simp [h, h2]
  · rename_i h
    simp [h]
def wickIn (x : Wick) : Prop := nameOk x.name = true ∧ (gIn x.threads 1 100 && inS x.pull 1 1000) = true ∧ turnedS x.pull = false
theorem wickErr_iff {b : List ByteArray} {x : Wick} : wickErr b x = 0 ↔ wickIn x ∧ x.name ∉ b := by
  unfold wickErr wickIn
  split
  · rename_i h
    rw [named_iff] at h
    split
    · rename_i h1
      split
      · rename_i h2; simp [h2]
      · rename_i h2; simp [h, h1, h2]
    · rename_i h1; simp [h1]
  · rename_i h
    constructor
    · intro h'; exact absurd h' h
    · rintro ⟨⟨h1, _⟩, h2⟩; exact absurd (named_iff.2 ⟨h1, h2⟩) h
theorem first_iff : ∀ {l : List Wick} {b : List ByteArray}, firstErr wickErr (·.name) l b = none ↔ (∀ w, w ∈ l → wickIn w ∧ w.name ∉ b) ∧ (l.map (·.name)).Nodup
  | [], b => by simp [firstErr]
  | x :: r, b => by
    unfold firstErr
    rw [List.map_cons, List.nodup_cons]
    by_cases h : wickErr b x = 0
    · rw [if_pos h, first_iff]
      rw [wickErr_iff] at h
      constructor
      · rintro ⟨h1, h2⟩
        refine ⟨fun w hw => ?_, fun hm => ?_, h2⟩
        · rcases List.mem_cons.1 hw with rfl | hw
          · exact h
          · have := h1 w hw
            exact ⟨this.1, fun hb => this.2 (by simp [hb])⟩
        · obtain ⟨w, hw, e⟩ := List.mem_map.1 hm
          exact (h1 w hw).2 (by rw [e]; simp)
      · rintro ⟨h1, h2, h3⟩
        refine ⟨fun w hw => ⟨(h1 w (by simp [hw])).1, fun hb => ?_⟩, h3⟩
        rcases List.mem_append.1 hb with hb | hb
        · exact (h1 w (by simp [hw])).2 hb
        · exact h2 (List.mem_map.2 ⟨w, hw, by simpa using hb⟩)
    · rw [if_neg h]
      constructor
      · intro h'; cases h'
      · rintro ⟨h1, _⟩
        exact absurd (wickErr_iff.2 (h1 x (by simp))) h
theorem first_perm {l l' : List Wick} (hp : l.Perm l') (h : firstErr wickErr (·.name) l [] = none) : firstErr wickErr (·.name) l' [] = none := by
  rw [first_iff] at h ⊢
  exact ⟨fun w hw => h.1 w (hp.mem_iff.2 hw), (hp.map _).nodup_iff.1 h.2⟩
def turnedShop (s : Shop) (b : Nat) : Shop := { s with wicks := rot s.wicks b }
theorem ask_turned {s : Shop} {c : Candle} (b : Nat) (h : askErr s [] c = 0) : askErr (turnedShop s b) [] c = 0 := by
  obtain ⟨h1, h2, _⟩ := ask_ok h
  have so := shopOk_of h1
  obtain ⟨n1, n2⟩ := shop_none h1
  have h0 : shopErr (turnedShop s b) = 0 := shop_mk (by simp only [turnedShop, rot_len]; have := so.lw; omega) (by have := so.lx; exact (by omega : 1 ≤ (s.waxes.length : Int) ∧ (s.waxes.length : Int) ≤ 6)) so.fl so.po (first_perm (rot_perm _ _).symm n1) n2
  rw [askErr, if_pos h0]
  exact h2
theorem suits_turned (s : Shop) (c : Candle) (x : Wax) (b : Nat) : ∀ (l : List Wick) (i : Nat), suitsGo (turnedShop s b) c x l i = suitsGo s c x l i
  | [], _ => rfl
  | w :: r, i => by
    unfold suitsGo
    rw [suits_turned s c x b r]
    rfl
theorem suits_count (s : Shop) (c : Candle) (x : Wax) : ∀ (l : List Wick) (i : Nat), (suitsGo s c x l i).length = l.countP (okW s c x)
  | [], _ => rfl
  | w :: r, i => by
    unfold suitsGo
    rw [List.countP_cons]
    split
    · rename_i h; rw [List.length_cons, suits_count s c x r]
    · rename_i h; rw [suits_count s c x r]; rfl

/-! back again -/
theorem suits_filter (s : Shop) (c : Candle) (x : Wax) (j : Nat) : ∀ (l : List Wick) (i : Nat), (suitsGo s c x l i).filter (fun n => n == (j : Int)) = if i ≤ j ∧ (∃ w, l[j - i]? = some w ∧ okW s c x w = true) then [(j : Int)] else []
  | [], i => by rw [if_neg (by rintro ⟨_, w, h, _⟩; simp at h)]; rfl
  | w :: r, i => by
    have ih := suits_filter s c x j r (i + 1)
    rw [suitsGo]
    rcases Nat.lt_trichotomy i j with h | h | h
    · have e : j - i = (j - (i + 1)) + 1 := by omega
      have hne : ((i : Int) == (j : Int)) = false := by rw [beq_eq_false_iff_ne]; omega
      have hh : (i ≤ j ∧ ∃ v, (w :: r)[j - i]? = some v ∧ okW s c x v = true) ↔ (i + 1 ≤ j ∧ ∃ v, r[j - (i + 1)]? = some v ∧ okW s c x v = true) := by
        rw [e, List.getElem?_cons_succ]
        constructor
        · rintro ⟨_, h2⟩; exact ⟨by omega, h2⟩
        · rintro ⟨_, h2⟩; exact ⟨by omega, h2⟩
      rw [ite_congr (propext hh) (fun _ => rfl) (fun _ => rfl), ← ih]
      by_cases hw : okW s c x w = true
      · rw [if_pos hw, List.filter_cons, hne]; rfl
      · rw [if_neg hw]
    · subst h
      have ih' : (suitsGo s c x r (i + 1)).filter (fun n => n == (i : Int)) = [] := by rw [ih, if_neg (fun hh => by have := hh.1; omega)]
      by_cases hw : okW s c x w = true
      · rw [if_pos hw, List.filter_cons, beq_self_eq_true, if_pos rfl, ih', if_pos ⟨Nat.le_refl _, w, by rw [Nat.sub_self]; rfl, hw⟩]
      · rw [if_neg hw, ih', if_neg]
        rintro ⟨_, v, h1, h2⟩
        rw [Nat.sub_self, List.getElem?_cons_zero] at h1
        cases h1
        exact hw h2
    · have hne : ((i : Int) == (j : Int)) = false := by rw [beq_eq_false_iff_ne]; omega
      have ih' : (suitsGo s c x r (i + 1)).filter (fun n => n == (j : Int)) = [] := by rw [ih, if_neg (fun hh => by have := hh.1; omega)]
      have hR : (if i ≤ j ∧ (∃ v, (w :: r)[j - i]? = some v ∧ okW s c x v = true) then [(j : Int)] else []) = [] := if_neg (fun hh => by have := hh.1; omega)
      rw [hR]
      by_cases hw : okW s c x w = true
      · rw [if_pos hw, List.filter_cons, hne]; exact ih'
      · rw [if_neg hw]; exact ih'
theorem suits_snoc (s : Shop) (c : Candle) (x : Wax) (w : Wick) : ∀ (l : List Wick) (i : Nat), suitsGo s c x (l ++ [w]) i = suitsGo s c x l i ++ if okW s c x w = true then [((i + l.length : Nat) : Int)] else []
  | [], i => by simp only [List.nil_append, suitsGo, List.length_nil, Nat.add_zero]
  | v :: r, i => by
    rw [List.cons_append, suitsGo, suitsGo, suits_snoc s c x w r (i + 1), List.length_cons, show i + 1 + r.length = i + (r.length + 1) by omega]
    split <;> simp
/-- those that come to k -/
def backOf (m : List Int) (b n k : Int) : List Int := (m.filter fun j => (j + b).tmod n == k).map fun _ => k
theorem back_one {s : Shop} {c : Candle} {x : Wax} {w : Wick} {b k : Nat} (hk : s.wicks[k]? = some w) (hl : s.wicks.length ≤ 12) :
    backOf (suitsGo s c x (rot s.wicks b) 0) (b : Int) (s.wicks.length : Int) (k : Int) = if okW s c x w = true then [(k : Int)] else [] := by
  have hkl : k < s.wicks.length := (List.getElem?_eq_some_iff.1 hk).1
  have hn : 0 < s.wicks.length := by omega
  -- the place in the turned list
  have hr : b % s.wicks.length < s.wicks.length := Nat.mod_lt _ hn
  have hj : ∃ j, j < s.wicks.length ∧ (j + b) % s.wicks.length = k ∧ ∀ i, i < s.wicks.length → (i + b) % s.wicks.length = k → i = j := by
    have e : ∀ i, (i + b) % s.wicks.length = (i + b % s.wicks.length) % s.wicks.length := by intro i; simp
    simp only [e]
    generalize b % s.wicks.length = r at *
    generalize s.wicks.length = n at *
    have step : ∀ i, i < n → (i + r) % n = if i + r < n then i + r else i + r - n := by
      intro i hi
      split
      · rename_i h; exact Nat.mod_eq_of_lt h
      · rename_i h; rw [Nat.mod_eq_sub_mod (by omega), Nat.mod_eq_of_lt (by omega)]
    refine ⟨if r ≤ k then k - r else k + n - r, ?_, ?_, fun i hi h => ?_⟩
    · split <;> omega
    · rw [step _ (by split <;> omega)]
      split <;> split <;> omega
    · rw [step i hi] at h
      split at h <;> split <;> omega
  obtain ⟨j, hj1, hj2, hj3⟩ := hj
  have hget : (rot s.wicks b)[j]? = some w := by rw [rot_at _ _ _ hj1, hj2]; exact hk
  have hf : (suitsGo s c x (rot s.wicks b) 0).filter (fun i => (i + (b : Int)).tmod (s.wicks.length : Int) == (k : Int)) = (suitsGo s c x (rot s.wicks b) 0).filter (fun n => n == (j : Int)) := by
    refine List.filter_congr fun n hn => ?_
    obtain ⟨i, v, h1, _, h3⟩ := (mem_suits s c x (rot s.wicks b) 0 n).1 hn
    have hi : i < s.wicks.length := by
      have := (List.getElem?_eq_some_iff.1 h1).1
      rwa [rot_len] at this
    simp only [Nat.zero_add] at h3
    subst h3
    have e : ((i : Int) + (b : Int)).tmod (s.wicks.length : Int) = (((i + b) % s.wicks.length : Nat) : Int) := by
      rw [Int.tmod_eq_emod_of_nonneg (by omega)]; simp
    rw [e, Bool.eq_iff_iff, beq_iff_eq, beq_iff_eq]
    constructor
    · intro h; have := hj3 i hi (by omega); omega
    · intro h; have : i = j := by omega
      rw [this, hj2]
  unfold backOf
  rw [hf, suits_filter, Nat.sub_zero, hget]
  by_cases hw : okW s c x w = true
  · rw [if_pos ⟨Nat.zero_le _, w, rfl, hw⟩, if_pos hw]; rfl
  · rw [if_neg (by rintro ⟨_, v, h1, h2⟩; cases h1; exact hw h2), if_neg hw]; rfl
end Abs
end Go.Proofs.Ytdgmmijimclooaa

namespace Go.Proofs.Ytdgmmijimclooaa
namespace Abs
set_option linter.unusedSimpArgs false
set_option maxRecDepth 4000

theorem lTurned (s : Shop) (c : Candle) (by_ : Int) (hby : 0 ≤ by_ ∧ by_ ≤ 255) : PCall Try.prog 13 [s.pv, c.pv, .int .u8 by_] (.bool true) := by
  obtain ⟨x, hx⟩ := site_any0 s c
  have t1 := cWickSuits s c x hx
  refine pcall_of_wp draws (fn := Try.f13) (n := 120) (rs := [.tmp 6]) (by kernel_rfl) rfl rfl rfl ok13 (Nat.le_of_ble_eq_true rfl) ?_
  simp (config := { maxSteps := 400000 }) only [go_sem, ↓reduceIte, reduceCtorEq, Nat.reduceEqDiff, Nat.reduceAdd, Nat.reduceLT, Nat.reduceLeDiff, Nat.reduceSub, Int.reduceToNat, Int.reduceLE, Int.reduceLT, Int.reduceNeg, Int.reduceBEq, Int.reduceBNe, Nat.reduceMul, Int.reduceAdd, Int.reduceMul, Int.reduceSub, Int.reduceEq, Int.reduceNe]
  refine WF_pure t1 rfl ?_
  simp (config := { maxSteps := 400000 }) only [go_sem, ↓reduceIte, reduceCtorEq, Nat.reduceEqDiff, Nat.reduceAdd, Nat.reduceLT, Nat.reduceLeDiff, Nat.reduceSub, Int.reduceToNat, Int.reduceLE, Int.reduceLT, Int.reduceNeg, Int.reduceBEq, Int.reduceBNe, Nat.reduceMul, Int.reduceAdd, Int.reduceMul, Int.reduceSub, Int.reduceEq, Int.reduceNe]
  refine WF_pure (cRefCandle s c) rfl ?_
  by_cases h0 : askErr s [] c = 0
  rotate_left
  · have h1 : (askErr s [] c != 0) = true := by simpa using h0
    simp (config := { maxSteps := 400000 }) only [h1, suitsSpec, if_neg h0, intsPV, go_sem, ↓reduceIte, reduceCtorEq, Nat.reduceEqDiff, Nat.reduceAdd, Nat.reduceLT, Nat.reduceLeDiff, Nat.reduceSub, Int.reduceToNat, Int.reduceLE, Int.reduceLT, Int.reduceNeg, Int.reduceBEq, Int.reduceBNe, Nat.reduceMul, Int.reduceAdd, Int.reduceMul, Int.reduceSub, Int.reduceEq, Int.reduceNe]
    refine WF_pure cAwake rfl ?_
    simp (config := { maxSteps := 400000 }) only [go_sem, ↓reduceIte, reduceCtorEq, Nat.reduceEqDiff, Nat.reduceAdd, Nat.reduceLT, Nat.reduceLeDiff, Nat.reduceSub, Int.reduceToNat, Int.reduceLE, Int.reduceLT, Int.reduceNeg, Int.reduceBEq, Int.reduceBNe, Nat.reduceMul, Int.reduceAdd, Int.reduceMul, Int.reduceSub, Int.reduceEq, Int.reduceNe]
  have h1 : (askErr s [] c != 0) = false := by simpa using h0
  have hs := hx h0
  have lw := hs.so.lw
  obtain ⟨b, rfl⟩ : ∃ b : Nat, by_ = (b : Int) := ⟨by_.toNat, by omega⟩
  have wb : IntKind.i64.wrap (b : Int) = (b : Int) := wrap_in (by omega) (by omega)
  have g0 := ask_turned b h0
  obtain ⟨x', hs'⟩ := siteC_of g0
  have ex : x' = x := Option.some.inj (hs'.hx.symm.trans hs.hx)
  subst ex
  have pS' := cWickSuits (turnedShop s b) c x' fun _ => hs'
  rw [suitsSpec, if_pos g0, suits_turned] at pS'
  have eR : (turnedShop s b).wicks = rot s.wicks b := rfl
  rw [eR] at pS'
  have hlen : (suitsGo s c x' s.wicks 0).length = (suitsGo s c x' (rot s.wicks b) 0).length := by
    rw [suits_count, suits_count]; exact ((rot_perm s.wicks b).countP_eq _).symm
  have hml : (suitsGo s c x' (rot s.wicks b) 0).length ≤ 12 := by
    have := suits_len s c x' (rot s.wicks b) 0
    rw [rot_len] at this
    omega
  have hmv : ∀ n, n ∈ suitsGo s c x' (rot s.wicks b) 0 → 0 ≤ n ∧ n < 12 := by
    intro n hn
    obtain ⟨i, v, e1, _, e3⟩ := (mem_suits s c x' (rot s.wicks b) 0 n).1 hn
    have := (List.getElem?_eq_some_iff.1 e1).1
    rw [rot_len] at this
    omega
  have hrl := rot_len s.wicks b
  have hra := rot_at s.wicks b
  have hbk : ∀ (k : Nat) (w : Wick), s.wicks[k]? = some w → backOf (suitsGo s c x' (rot s.wicks b) 0) (b : Int) (s.wicks.length : Int) (k : Int) = if okW s c x' w = true then [(k : Int)] else [] := fun k w hk => back_one hk (by omega)
  have ePv : (turnedShop s b).pv = .agg [.slice 4 ((rot s.wicks b).map Wick.pv) false, .slice 8 (s.waxes.map Wax.pv) false, .int .i64 s.flame.lo, .int .i64 s.flame.hi, .int .i64 s.pool.lo, .int .i64 s.pool.hi] := rfl
  rw [ePv] at pS'
  rw [suitsSpec, if_pos h0]
  have hln : ¬ (s.wicks.length : Int) = 0 := by omega
  generalize rot s.wicks b = R at *
  generalize suitsGo s c x' R 0 = m at *
  simp (config := { maxSteps := 400000 }) only [h1, go_sem, ↓reduceIte, reduceCtorEq, Nat.reduceEqDiff, Nat.reduceAdd, Nat.reduceLT, Nat.reduceLeDiff, Nat.reduceSub, Int.reduceToNat, Int.reduceLE, Int.reduceLT, Int.reduceNeg, Int.reduceBEq, Int.reduceBNe, Nat.reduceMul, Int.reduceAdd, Int.reduceMul, Int.reduceSub, Int.reduceEq, Int.reduceNe]
  refine W_loop_nil 10 4 (by simp (config := { maxSteps := 400000 }) only [go_sem, ↓reduceIte, reduceCtorEq, Nat.reduceEqDiff, Nat.reduceAdd, Nat.reduceLT, Nat.reduceLeDiff, Nat.reduceSub, Int.reduceToNat, Int.reduceLE, Int.reduceLT, Int.reduceNeg, Int.reduceBEq, Int.reduceBNe, Nat.reduceMul, Int.reduceAdd, Int.reduceMul, Int.reduceSub, Int.reduceEq, Int.reduceNe]) ?_
  simp (config := { maxSteps := 400000 }) only [go_sem, ↓reduceIte, reduceCtorEq, Nat.reduceEqDiff, Nat.reduceAdd, Nat.reduceLT, Nat.reduceLeDiff, Nat.reduceSub, Int.reduceToNat, Int.reduceLE, Int.reduceLT, Int.reduceNeg, Int.reduceBEq, Int.reduceBNe, Nat.reduceMul, Int.reduceAdd, Int.reduceMul, Int.reduceSub, Int.reduceEq, Int.reduceNe]
  refine W_loopS [2, 3, 4, 7, 8, 9] (σ := List Wick × List Wick) (fun q => R = q.1 ++ q.2) (fun q => q.2.length)
    (fun q => match q.2 with
      | [] => [(10, .p (.slice 4 (R.map Wick.pv) false)), (11, .p (.int .i64 q.1.length))]
      | _ :: _ => [(10, .slice 2 q.1.length 0 q.1.length), (11, .p (.int .i64 q.1.length))])
    (fun q h => match q.2 with
      | [] => h.take 2
      | _ :: _ => h.set 2 (.row 4 (q.1.map fun w => .p w.pv))) ([], R) rfl ?_ ?_
  · cases hR : R with
    | nil => rw [hR] at hrl; simp at hrl; omega
    | cons w r => simp (config := { maxSteps := 400000 }) only [go_sem, ↓reduceIte, reduceCtorEq, Nat.reduceEqDiff, Nat.reduceAdd, Nat.reduceLT, Nat.reduceLeDiff, Nat.reduceSub, Int.reduceToNat, Int.reduceLE, Int.reduceLT, Int.reduceNeg, Int.reduceBEq, Int.reduceBNe, Nat.reduceMul, Int.reduceAdd, Int.reduceMul, Int.reduceSub, Int.reduceEq, Int.reduceNe]
  rintro ⟨done, rest⟩ e1
  dsimp only at e1
  cases rest with
  | cons w r =>
    have hi : done.length < s.wicks.length := by rw [← hrl, e1]; simp
    have hlt : ((done.length : Int) < (s.wicks.length : Int)) := by omega
    have hnx : IntKind.i64.wrap ((done.length : Int) + 1) = (((done ++ [w]).length : Nat) : Int) := wrap_add (by omega) (by simp [room]; omega) (by simp)
    have hw := hra done.length hi
    rw [e1, List.getElem?_append_right (Nat.le_refl _), Nat.sub_self, List.getElem?_cons_zero] at hw
    have hsum : IntKind.i64.wrap ((done.length : Int) + (b : Int)) = (((done.length + b : Nat)) : Int) := wrap_in (by omega) (by omega)
    have hmod : (((done.length + b : Nat)) : Int).tmod (s.wicks.length : Int) = (((done.length + b) % s.wicks.length : Nat) : Int) := by
      rw [Int.tmod_eq_emod_of_nonneg (by omega)]; simp
    have hml2 : (((done.length + b) % s.wicks.length : Nat) : Int) < (s.wicks.length : Int) := by
      have := Nat.mod_lt (done.length + b) (show 0 < s.wicks.length by omega)
      omega
    have hrm : done.length + 1 ≤ room := by simp [room]; omega
    simp (config := { maxSteps := 400000 }) only [hlt, wb, hsum, hmod, hml2, ← hw, hrm, hln, go_sem, ↓reduceIte, reduceCtorEq, Nat.reduceEqDiff, Nat.reduceAdd, Nat.reduceLT, Nat.reduceLeDiff, Nat.reduceSub, Int.reduceToNat, Int.reduceLE, Int.reduceLT, Int.reduceNeg, Int.reduceBEq, Int.reduceBNe, Nat.reduceMul, Int.reduceAdd, Int.reduceMul, Int.reduceSub, Int.reduceEq, Int.reduceNe]
    cases r with
    | cons w2 r2 =>
      refine WQ_headA (done ++ [w], w2 :: r2) (by simp [e1]) (by simp) ?_
      simp (config := { maxSteps := 400000 }) only [hnx, List.length_append, List.map_append, go_sem, ↓reduceIte, reduceCtorEq, Nat.reduceEqDiff, Nat.reduceAdd, Nat.reduceLT, Nat.reduceLeDiff, Nat.reduceSub, Int.reduceToNat, Int.reduceLE, Int.reduceLT, Int.reduceNeg, Int.reduceBEq, Int.reduceBNe, Nat.reduceMul, Int.reduceAdd, Int.reduceMul, Int.reduceSub, Int.reduceEq, Int.reduceNe]
    | nil =>
      refine WQ_headF (done ++ [w], []) (by simp [e1]) (by simp) ?_
      simp (config := { maxSteps := 400000 }) only [hnx, headOkF, go_sem, ↓reduceIte, reduceCtorEq, Nat.reduceEqDiff, Nat.reduceAdd, Nat.reduceLT, Nat.reduceLeDiff, Nat.reduceSub, Int.reduceToNat, Int.reduceLE, Int.reduceLT, Int.reduceNeg, Int.reduceBEq, Int.reduceBNe, Nat.reduceMul, Int.reduceAdd, Int.reduceMul, Int.reduceSub, Int.reduceEq, Int.reduceNe]
      refine ⟨2, 4, R.map Wick.pv, Nat.le_refl _, by rw [List.length_map, e1]; simp, by rw [e1]; simp [Wick.pv], rfl⟩
  | nil =>
    have hnl : ¬ ((done.length : Int) < (s.wicks.length : Int)) := by rw [← hrl, e1]; simp
    simp (config := { maxSteps := 400000 }) only [hnl, go_sem, ↓reduceIte, reduceCtorEq, Nat.reduceEqDiff, Nat.reduceAdd, Nat.reduceLT, Nat.reduceLeDiff, Nat.reduceSub, Int.reduceToNat, Int.reduceLE, Int.reduceLT, Int.reduceNeg, Int.reduceBEq, Int.reduceBNe, Nat.reduceMul, Int.reduceAdd, Int.reduceMul, Int.reduceSub, Int.reduceEq, Int.reduceNe]
    refine WF_pure pS' rfl ?_
    simp (config := { maxSteps := 400000 }) only [intsPV, hlen, bne_self_eq_false, go_sem, ↓reduceIte, reduceCtorEq, Nat.reduceEqDiff, Nat.reduceAdd, Nat.reduceLT, Nat.reduceLeDiff, Nat.reduceSub, Int.reduceToNat, Int.reduceLE, Int.reduceLT, Int.reduceNeg, Int.reduceBEq, Int.reduceBNe, Nat.reduceMul, Int.reduceAdd, Int.reduceMul, Int.reduceSub, Int.reduceEq, Int.reduceNe]
    refine W_loop_nil 15 1 (by simp (config := { maxSteps := 400000 }) only [go_sem, ↓reduceIte, reduceCtorEq, Nat.reduceEqDiff, Nat.reduceAdd, Nat.reduceLT, Nat.reduceLeDiff, Nat.reduceSub, Int.reduceToNat, Int.reduceLE, Int.reduceLT, Int.reduceNeg, Int.reduceBEq, Int.reduceBNe, Nat.reduceMul, Int.reduceAdd, Int.reduceMul, Int.reduceSub, Int.reduceEq, Int.reduceNe]) ?_
    simp (config := { maxSteps := 400000 }) only [go_sem, ↓reduceIte, reduceCtorEq, Nat.reduceEqDiff, Nat.reduceAdd, Nat.reduceLT, Nat.reduceLeDiff, Nat.reduceSub, Int.reduceToNat, Int.reduceLE, Int.reduceLT, Int.reduceNeg, Int.reduceBEq, Int.reduceBNe, Nat.reduceMul, Int.reduceAdd, Int.reduceMul, Int.reduceSub, Int.reduceEq, Int.reduceNe]
    refine W_loopS [2, 7, 9, 13] (σ := List Wick × List Wick) (fun q => s.wicks = q.1 ++ q.2) (fun q => q.2.length)
      (fun q => [(15, .slice 3 (suitsGo s c x' q.1 0).length 0 (suitsGo s c x' q.1 0).length), (16, .p (.int .i64 q.1.length))])
      (fun q h => h.set 3 (.row 1 ((suitsGo s c x' q.1 0).map fun n => .p (.int .i64 n)))) ([], s.wicks) (List.nil_append _).symm ?_ ?_
    · simp (config := { maxSteps := 400000 }) only [suitsGo, go_sem, ↓reduceIte, reduceCtorEq, Nat.reduceEqDiff, Nat.reduceAdd, Nat.reduceLT, Nat.reduceLeDiff, Nat.reduceSub, Int.reduceToNat, Int.reduceLE, Int.reduceLT, Int.reduceNeg, Int.reduceBEq, Int.reduceBNe, Nat.reduceMul, Int.reduceAdd, Int.reduceMul, Int.reduceSub, Int.reduceEq, Int.reduceNe]
    rintro ⟨dn, rs⟩ f1
    dsimp only at f1
    cases rs with
    | nil =>
      have hnl2 : ¬ ((dn.length : Int) < (s.wicks.length : Int)) := by rw [f1]; simp
      rw [List.append_nil] at f1
      subst f1
      have hl9 : (suitsGo s c x' s.wicks 0).length < 1000000000 := by rw [hlen]; omega
      simp (config := { maxSteps := 400000 }) only [hnl2, go_sem, ↓reduceIte, reduceCtorEq, Nat.reduceEqDiff, Nat.reduceAdd, Nat.reduceLT, Nat.reduceLeDiff, Nat.reduceSub, Int.reduceToNat, Int.reduceLE, Int.reduceLT, Int.reduceNeg, Int.reduceBEq, Int.reduceBNe, Nat.reduceMul, Int.reduceAdd, Int.reduceMul, Int.reduceSub, Int.reduceEq, Int.reduceNe]
      refine WF_frz (cIntsT (suitsGo s c x' s.wicks 0) false false hl9) ?_ (.bool _) ?_
      · simp (config := { maxSteps := 400000 }) only [frzL, frzList_mapN, go_sem, ↓reduceIte, reduceCtorEq, Nat.reduceEqDiff, Nat.reduceAdd, Nat.reduceLT, Nat.reduceLeDiff, Nat.reduceSub, Int.reduceToNat, Int.reduceLE, Int.reduceLT, Int.reduceNeg, Int.reduceBEq, Int.reduceBNe, Nat.reduceMul, Int.reduceAdd, Int.reduceMul, Int.reduceSub, Int.reduceEq, Int.reduceNe]
        rfl
      simp (config := { maxSteps := 400000 }) only [go_sem, ↓reduceIte, reduceCtorEq, Nat.reduceEqDiff, Nat.reduceAdd, Nat.reduceLT, Nat.reduceLeDiff, Nat.reduceSub, Int.reduceToNat, Int.reduceLE, Int.reduceLT, Int.reduceNeg, Int.reduceBEq, Int.reduceBNe, Nat.reduceMul, Int.reduceAdd, Int.reduceMul, Int.reduceSub, Int.reduceEq, Int.reduceNe]
      refine WF_pure cAwake rfl ?_
      simp (config := { maxSteps := 400000 }) only [go_sem, ↓reduceIte, reduceCtorEq, Nat.reduceEqDiff, Nat.reduceAdd, Nat.reduceLT, Nat.reduceLeDiff, Nat.reduceSub, Int.reduceToNat, Int.reduceLE, Int.reduceLT, Int.reduceNeg, Int.reduceBEq, Int.reduceBNe, Nat.reduceMul, Int.reduceAdd, Int.reduceMul, Int.reduceSub, Int.reduceEq, Int.reduceNe]
    | cons w r =>
      obtain ⟨hxx, hlt⟩ := list_at f1
      have hnx : IntKind.i64.wrap ((dn.length : Int) + 1) = (((dn ++ [w]).length : Nat) : Int) := wrap_add (by omega) (by simp [room]; omega) (by simp)
      have hacc := suits_len s c x' dn 0
      have hdl : dn.length ≤ 12 := by omega
      simp (config := { maxSteps := 400000 }) only [hlt, go_sem, ↓reduceIte, reduceCtorEq, Nat.reduceEqDiff, Nat.reduceAdd, Nat.reduceLT, Nat.reduceLeDiff, Nat.reduceSub, Int.reduceToNat, Int.reduceLE, Int.reduceLT, Int.reduceNeg, Int.reduceBEq, Int.reduceBNe, Nat.reduceMul, Int.reduceAdd, Int.reduceMul, Int.reduceSub, Int.reduceEq, Int.reduceNe]
      refine W_loopS [2, 7, 9, 13, 16] (σ := List Int × List Int) (fun q => m = q.1 ++ q.2) (fun q => q.2.length)
        (fun q => [(15, .slice 3 (suitsGo s c x' dn 0 ++ backOf q.1 b s.wicks.length dn.length).length 0 (suitsGo s c x' dn 0 ++ backOf q.1 b s.wicks.length dn.length).length), (17, .p (.int .i64 q.1.length))])
        (fun q h => h.set 3 (.row 1 ((suitsGo s c x' dn 0 ++ backOf q.1 b s.wicks.length dn.length).map fun n => .p (.int .i64 n)))) ([], m) (List.nil_append _).symm ?_ ?_
      · simp (config := { maxSteps := 400000 }) only [backOf, List.filter_nil, List.append_nil, go_sem, ↓reduceIte, reduceCtorEq, Nat.reduceEqDiff, Nat.reduceAdd, Nat.reduceLT, Nat.reduceLeDiff, Nat.reduceSub, Int.reduceToNat, Int.reduceLE, Int.reduceLT, Int.reduceNeg, Int.reduceBEq, Int.reduceBNe, Nat.reduceMul, Int.reduceAdd, Int.reduceMul, Int.reduceSub, Int.reduceEq, Int.reduceNe]
      rintro ⟨di, ri⟩ f2
      dsimp only at f2
      have hbl : (backOf di b s.wicks.length dn.length).length ≤ 12 := by
        unfold backOf
        rw [List.length_map]
        have h1 := List.length_filter_le (fun j => (j + (b : Int)).tmod (s.wicks.length : Int) == (dn.length : Int)) di
        have h2 := congrArg List.length f2
        simp at h2
        omega
      cases ri with
      | nil =>
        have hnl3 : ¬ ((di.length : Int) < (m.length : Int)) := by rw [f2]; simp
        rw [List.append_nil] at f2
        simp (config := { maxSteps := 400000 }) only [hnl3, go_sem, ↓reduceIte, reduceCtorEq, Nat.reduceEqDiff, Nat.reduceAdd, Nat.reduceLT, Nat.reduceLeDiff, Nat.reduceSub, Int.reduceToNat, Int.reduceLE, Int.reduceLT, Int.reduceNeg, Int.reduceBEq, Int.reduceBNe, Nat.reduceMul, Int.reduceAdd, Int.reduceMul, Int.reduceSub, Int.reduceEq, Int.reduceNe]
        have hb2 := hbk dn.length w hxx
        rw [f2] at hb2
        have hsn := suits_snoc s c x' w dn 0
        rw [Nat.zero_add, ← hb2] at hsn
        refine WQ_headA (dn ++ [w], r) (by simp [f1]) (by simp) ?_
        simp (config := { maxSteps := 400000 }) only [hnx, hsn, go_sem, ↓reduceIte, reduceCtorEq, Nat.reduceEqDiff, Nat.reduceAdd, Nat.reduceLT, Nat.reduceLeDiff, Nat.reduceSub, Int.reduceToNat, Int.reduceLE, Int.reduceLT, Int.reduceNeg, Int.reduceBEq, Int.reduceBNe, Nat.reduceMul, Int.reduceAdd, Int.reduceMul, Int.reduceSub, Int.reduceEq, Int.reduceNe]
      | cons n rn =>
        obtain ⟨hx2, hlt2⟩ := list_at f2
        have hnx2 : IntKind.i64.wrap ((di.length : Int) + 1) = (((di ++ [n]).length : Nat) : Int) := wrap_add (by omega) (by simp [room]; omega) (by simp)
        have hnv := hmv n (by rw [f2]; simp)
        have hge : decide (0 ≤ n) = true := decide_eq_true hnv.1
        have hsum : IntKind.i64.wrap (n + (b : Int)) = n + (b : Int) := wrap_in (by omega) (by omega)
        have hrm : (suitsGo s c x' dn 0 ++ backOf di b s.wicks.length dn.length).length + 1 ≤ room := by simp [room]; omega
        cases hq : ((n + (b : Int)).tmod (s.wicks.length : Int) == (dn.length : Int))
        · have hq2 : backOf (di ++ [n]) b s.wicks.length dn.length = backOf di b s.wicks.length dn.length := by
            unfold backOf
            rw [List.filter_append, List.filter_cons]
            rw [hq]; simp
          simp (config := { maxSteps := 400000 }) only [hlt2, hx2, intPV, hge, wb, hsum, hln, hq, hnv.1, go_sem, ↓reduceIte, reduceCtorEq, Nat.reduceEqDiff, Nat.reduceAdd, Nat.reduceLT, Nat.reduceLeDiff, Nat.reduceSub, Int.reduceToNat, Int.reduceLE, Int.reduceLT, Int.reduceNeg, Int.reduceBEq, Int.reduceBNe, Nat.reduceMul, Int.reduceAdd, Int.reduceMul, Int.reduceSub, Int.reduceEq, Int.reduceNe]
          refine WQ_headA (di ++ [n], rn) (by rw [f2, List.append_assoc]; rfl) (Nat.lt_succ_self _) ?_
          simp (config := { maxSteps := 400000 }) only [hnx2, hq2, go_sem, ↓reduceIte, reduceCtorEq, Nat.reduceEqDiff, Nat.reduceAdd, Nat.reduceLT, Nat.reduceLeDiff, Nat.reduceSub, Int.reduceToNat, Int.reduceLE, Int.reduceLT, Int.reduceNeg, Int.reduceBEq, Int.reduceBNe, Nat.reduceMul, Int.reduceAdd, Int.reduceMul, Int.reduceSub, Int.reduceEq, Int.reduceNe]
        · have hq2 : backOf (di ++ [n]) b s.wicks.length dn.length = backOf di b s.wicks.length dn.length ++ [(dn.length : Int)] := by
            unfold backOf
            rw [List.filter_append, List.filter_cons]
            rw [hq]; simp
          simp (config := { maxSteps := 400000 }) only [hlt2, hx2, intPV, hge, wb, hsum, hln, hq, hnv.1, hrm, go_sem, ↓reduceIte, reduceCtorEq, Nat.reduceEqDiff, Nat.reduceAdd, Nat.reduceLT, Nat.reduceLeDiff, Nat.reduceSub, Int.reduceToNat, Int.reduceLE, Int.reduceLT, Int.reduceNeg, Int.reduceBEq, Int.reduceBNe, Nat.reduceMul, Int.reduceAdd, Int.reduceMul, Int.reduceSub, Int.reduceEq, Int.reduceNe]
          refine WQ_headA (di ++ [n], rn) (by rw [f2, List.append_assoc]; rfl) (Nat.lt_succ_self _) ?_
          simp (config := { maxSteps := 400000 }) only [hnx2, hq2, go_sem, ↓reduceIte, reduceCtorEq, Nat.reduceEqDiff, Nat.reduceAdd, Nat.reduceLT, Nat.reduceLeDiff, Nat.reduceSub, Int.reduceToNat, Int.reduceLE, Int.reduceLT, Int.reduceNeg, Int.reduceBEq, Int.reduceBNe, Nat.reduceMul, Int.reduceAdd, Int.reduceMul, Int.reduceSub, Int.reduceEq, Int.reduceNe]
          rw [← List.append_assoc]
          refine ⟨by rw [List.map_append (l₂ := [(dn.length : Int)])]; rfl, by rw [List.length_append (bs := [(dn.length : Int)])]; rfl⟩
end Abs
end Go.Proofs.Ytdgmmijimclooaa
