/-
  CONTRACTS: the program's iterator over the recipes that fit a wish.
-/
import Derived.Test.YthekmbikolpmlaaBdRec
namespace Go.Proofs.Ythekmbikolpmlaa
namespace Abs
set_option linter.unusedSimpArgs false
set_option maxRecDepth 4000

/-- what the program goes through -/
def fillS (l : List BdWax) (w : BdWish) : Nat → List Int → Int → List (List Int)
  | 0, pre, left => if whyS l w (pre ++ [left]) = 0 then [pre ++ [left]] else []
  | k + 1, pre, left => match w.parts[pre.length]? with
    | some s => (ups s.lo (if s.hi < left then s.hi else left)).flatMap fun n => fillS l w k (pre ++ [n]) (left - n)
    | none => []

theorem ups_append {a b c : Int} (h1 : a ≤ b + 1) (h2 : b ≤ c) : ups a c = ups a b ++ ups (b + 1) c := by
  unfold ups
  obtain ⟨m, hm⟩ : ∃ m : Nat, (b + 1 - a).toNat = m := ⟨_, rfl⟩
  obtain ⟨k, hk⟩ : ∃ k : Nat, (c + 1 - (b + 1)).toNat = k := ⟨_, rfl⟩
  have e : (c + 1 - a).toNat = m + k := by omega
  rw [e, hm, hk, List.range_add, List.map_append, List.map_map]
  congr 1
  apply List.map_congr_left
  intro i _
  simp only [Function.comp]
  omega
theorem ups_empty {a b : Int} (h : b < a) : ups a b = [] := by
  unfold ups
  have : (b + 1 - a).toNat = 0 := by omega
  rw [this]; rfl
theorem flat_nil {α β : Type} {f : α → List β} : ∀ {l : List α}, (∀ x, x ∈ l → f x = []) → l.flatMap f = []
  | [], _ => rfl
  | x :: l, h => by rw [List.flatMap_cons, h x (by simp), flat_nil fun y hy => h y (by simp [hy])]; rfl
theorem flat_ups {β : Type} {f : Int → List β} {lo hi left : Int} (h0 : 0 ≤ lo) (hf : ∀ n, n < lo ∨ hi < n → f n = []) : (ups 0 left).flatMap f = (ups lo (if hi < left then hi else left)).flatMap f := by
  obtain ⟨m, hm⟩ : ∃ m, (if hi < left then hi else left) = m := ⟨_, rfl⟩
  have hmh : m ≤ hi := by rw [← hm]; split <;> omega
  have hml : m ≤ left := by rw [← hm]; split <;> omega
  have hmx : ∀ n, n ≤ left → m < n → hi < n := fun n h1 h2 => by rw [← hm] at h2; split at h2 <;> omega
  rw [hm]
  rcases Int.lt_or_le m lo with h | h
  · rw [ups_empty h]
    exact flat_nil fun n hn => by
      have := mem_ups.1 hn
      by_cases h1 : n < lo
      · exact hf n (.inl h1)
      · exact hf n (.inr (hmx n this.2 (by omega)))
  · have e1 : ups 0 left = ups 0 (lo - 1) ++ ups lo left := by have := ups_append (a := 0) (b := lo - 1) (c := left) (by omega) (by omega); rwa [Int.sub_add_cancel] at this
    have e2 : ups lo left = ups lo m ++ ups (m + 1) left := ups_append (by omega) hml
    rw [e1, e2, List.flatMap_append, List.flatMap_append, flat_nil (l := ups 0 (lo - 1)) fun n hn => hf n (.inl (by have := mem_ups.1 hn; omega)),
      flat_nil (l := ups (m + 1) left) fun n hn => hf n (.inr (by have := mem_ups.1 hn; exact hmx n this.2 (by omega)))]
    simp
theorem out_why {l : List BdWax} {w : BdWish} {pre t : List Int} {n : Int} {s : Span} (hs : w.parts[pre.length]? = some s) (hn : n < s.lo ∨ s.hi < n) : whyS l w (pre ++ n :: t) = 1 := by
  have : partsOut w (pre ++ n :: t) = true := by
    unfold partsOut
    rw [List.any_eq_true]
    refine ⟨(n, s), List.mem_of_getElem? (i := pre.length) (List.getElem?_zip_eq_some.2 ⟨by simp, hs⟩), ?_⟩
    simp [gIn]; omega
  rw [whyS, if_pos this]
theorem fill_eq {l : List BdWax} {w : BdWish} (hw : WishOk l.length w) : ∀ (k : Nat) (pre : List Int) (left : Int), pre.length + k + 1 = l.length → fillS l w k pre left = ((recs k left).map (pre ++ ·)).filter fun r => whyS l w r == 0
  | 0, pre, left, h => by
    rw [fillS, recs]
    simp [List.filter_cons]
  | k + 1, pre, left, h => by
    have hlt : pre.length < w.parts.length := by have := hw.len; omega
    obtain ⟨s, hs⟩ : ∃ s, w.parts[pre.length]? = some s := ⟨_, List.getElem?_eq_getElem hlt⟩
    have hsr := hw.parts s (List.mem_of_getElem? hs)
    rw [fillS, hs, recs]
    dsimp only
    have e : ∀ n, fillS l w k (pre ++ [n]) (left - n) = (((recs k (left - n)).map (n :: ·)).map (pre ++ ·)).filter fun r => whyS l w r == 0 := fun n => by
      rw [fill_eq hw k (pre ++ [n]) (left - n) (by simp; omega)]
      simp [Function.comp_def]
    simp only [e]
    have : ((((ups 0 left).flatMap fun n => (recs k (left - n)).map (n :: ·)).map (pre ++ ·)).filter fun r => whyS l w r == 0) = (ups 0 left).flatMap fun n => (((recs k (left - n)).map (n :: ·)).map (pre ++ ·)).filter fun r => whyS l w r == 0 := by
      rw [List.map_flatMap, List.filter_flatMap]
    rw [this]
    symm
    refine flat_ups hsr.1 fun n hn => ?_
    rw [List.filter_eq_nil_iff]
    intro r hr
    simp only [List.map_map, List.mem_map, Function.comp] at hr
    obtain ⟨t, _, rfl⟩ := hr
    rw [out_why hs hn]
    decide
theorem fill_all {l : List BdWax} {w : BdWish} (hl : BdWaxesOk l) (hw : WishOk l.length w) : fillS l w (l.length - 1) [] 20 = fits l w := by
  rw [fill_eq hw _ _ _ (by have := hl.len; simp; omega)]
  simp [fits]

/-! the walk -/
def bdLp (l : List BdWax) : PV := .ptr 1 [bdWaxes l] 0 0
def bdWp (w : BdWish) : PV := .ptr 5 [w.pv] 0 0
attribute [go_sem] bdLp bdWp
def fillH (l : List BdWax) (w : BdWish) (n0 id : Nat) (lo : Heap) (cur : List Int) (ext : Heap) : Heap :=
  lo ++ (.row 1 [.ref .yl id] :: .row 1 (cur.map fun x => .p (intPV x)) :: .row 1 [.slice (n0 + 1) l.length 0 l.length] ::
    .row 1 [.func (.func 96) [] [.p (bdLp l), .ptr (n0 + 2) 1 0 0, .p (bdWp w), .ptr n0 1 0 0, .ptr (n0 + 3) 1 0 0]] :: ext)
theorem app_gg {lo : Heap} {n0 : Nat} (h : lo.length = n0) (t : Heap) (j : Nat) : (lo ++ t)[n0 + j]? = t[j]? := by rw [List.getElem?_append_right (by omega)]; congr 1; omega
theorem app_g0 {lo : Heap} {n0 : Nat} (h : lo.length = n0) (t : Heap) : (lo ++ t)[n0]? = t[0]? := app_gg h t 0
theorem app_ss {lo : Heap} {n0 : Nat} (h : lo.length = n0) (t : Heap) (j : Nat) (x : AObj) : (lo ++ t).set (n0 + j) x = lo ++ t.set j x := by
  rw [List.set_append_right _ _ (by omega)]; congr 2; omega
theorem take_set {cur pre : List Int} {v c : Int} (h : cur.take pre.length = pre) (hc : cur[pre.length]? = some c) : (cur.set pre.length v).take (pre.length + 1) = pre ++ [v] := by
  have hlt := (List.getElem?_eq_some_iff.1 hc).1
  rw [List.take_add_one, List.take_set_of_le (by omega), h]
  simp [hlt]
set_option maxHeartbeats 2000000 in
theorem cFill {l : List BdWax} {w : BdWish} (hl : BdWaxesOk l) (hw : WishOk l.length w) {id n0 : Nat} {Inv : Nat → Heap → Prop} {Fin : Heap → Prop} {all : List (List Int)}
    (hy : ∀ (k : Nat) (xs : List PV) (lo mid : Heap) (j : Nat), (all.map fun r => r.map intPV)[k]? = some xs → Inv k lo → lo.length = n0 → mid[j]? = some (.row 1 (xs.map .p)) →
      HYld Try.prog id [.slice (j + n0) xs.length 0 xs.length] (lo ++ mid) (fun r h' => ∃ lo' ext, h' = lo' ++ mid ++ ext ∧ lo'.length = n0 ∧
        ((r = .ret (.p (.bool true)) ∧ Inv (k + 1) lo') ∨ (r = .ret (.p (.bool false)) ∧ Fin lo')))) :
    ∀ (k : Nat) (pre : List Int) (left : Int) (lo : Heap) (cur : List Int) (ext : Heap) (idx : Nat) (tl : List (List Int)), pre.length + k + 1 = l.length → 0 ≤ left → left ≤ 20 → (∀ n, n ∈ pre → 0 ≤ n ∧ n ≤ 20) →
      cur.length = l.length → cur.take pre.length = pre → idx ≤ all.length → all.drop idx = fillS l w k pre left ++ tl → lo.length = n0 → Inv idx lo →
      HCall Try.prog 96 [.p (.int .i64 pre.length), .p (.int .i64 left), .p (bdLp l), .ptr (n0 + 2) 1 0 0, .p (bdWp w), .ptr n0 1 0 0, .ptr (n0 + 3) 1 0 0] (fillH l w n0 id lo cur ext)
        (fun r h' => ∃ lo' cur' ext', h' = fillH l w n0 id lo' cur' ext' ∧ lo'.length = n0 ∧ ((r = .ret (.p (.bool true)) ∧ cur'.length = l.length ∧ cur'.take pre.length = pre ∧ ∃ idx', idx' ≤ all.length ∧ all.drop idx' = tl ∧ Inv idx' lo') ∨
          (r = .ret (.p (.bool false)) ∧ Fin lo')))
  | 0, pre, left, lo, cur, ext, idx, tl, h1, h2, h3, h4, h5, h6, h7, h8, h9, h10 => by
    refine hcall_of_wp draws (fn := Try.f96) (n := 60) (rs := [.tmp 9]) (by kernel_rfl) rfl rfl rfl ok96 (Nat.le_of_ble_eq_true rfl) ?_
    have hl5 := hl.len
    have gg := app_gg h9
    have g0 := app_g0 h9
    have ss := app_ss h9
    have hw1 : IntKind.i64.wrap ((l.length : Int) - 1) = (l.length : Int) - 1 := len_dec hl
    have hc : (((pre.length : Nat) : Int) == (l.length : Int) - 1) = true := by simp; omega
    obtain ⟨c, hcur⟩ : ∃ c, cur[pre.length]? = some c := ⟨_, List.getElem?_eq_getElem (by omega)⟩
    have hlt : ((pre.length : Nat) : Int) < (l.length : Int) := by omega
    have hset : (cur.map fun x => AV.p (intPV x)).set pre.length (.p (intPV left)) = (cur.set pre.length left).map fun x => AV.p (intPV x) := by rw [List.map_set]
    have hcs : cur.set pre.length left = pre ++ [left] := by
      have := take_set (v := left) h6 hcur
      rwa [List.take_of_length_le (by simp; omega)] at this
    rw [hcs] at hset
    simp only [intPV] at hset
    have hlen : (pre ++ [left]).length = l.length := by simp; omega
    have hrng : ∀ n, n ∈ pre ++ [left] → 0 ≤ n ∧ n ≤ 20 := fun n hn => by
      rcases List.mem_append.1 hn with hn | hn
      · exact h4 n hn
      · simp at hn; omega
    simp (config := { maxSteps := 400000 }) only [fillH, gg, g0, ss, hw1, hc, hcur, hlt, h5, hset, go_sem, ↓reduceIte, reduceCtorEq, Nat.reduceEqDiff, Nat.reduceAdd, Nat.reduceLT, Nat.reduceLeDiff, Nat.reduceSub, Int.reduceToNat, Int.reduceLE, Int.reduceLT, Int.reduceNeg, Int.reduceBEq, Int.reduceBNe, Nat.reduceMul, Int.reduceAdd, Int.reduceMul, Int.reduceSub, Int.reduceEq, Int.reduceNe]
    have htk : ((pre ++ [left]).map intPV).take l.length = (pre ++ [left]).map intPV := List.take_of_length_le (by simp; omega)
    refine WF_frz (cWhy0 false hl hw hlen hrng) ?_ (.int _ _) ?_
    · simp (config := { maxSteps := 400000 }) only [gg, g0, hlen, htk, go_sem, ↓reduceIte, reduceCtorEq, Nat.reduceEqDiff, Nat.reduceAdd, Nat.reduceLT, Nat.reduceLeDiff, Nat.reduceSub, Int.reduceToNat, Int.reduceLE, Int.reduceLT, Int.reduceNeg, Int.reduceBEq, Int.reduceBNe, Nat.reduceMul, Int.reduceAdd, Int.reduceMul, Int.reduceSub, Int.reduceEq, Int.reduceNe]
      exact congrArg (fun x => PV.slice 1 x false) htk
    simp (config := { maxSteps := 400000 }) only [go_sem, ↓reduceIte, reduceCtorEq, Nat.reduceEqDiff, Nat.reduceAdd, Nat.reduceLT, Nat.reduceLeDiff, Nat.reduceSub, Int.reduceToNat, Int.reduceLE, Int.reduceLT, Int.reduceNeg, Int.reduceBEq, Int.reduceBNe, Nat.reduceMul, Int.reduceAdd, Int.reduceMul, Int.reduceSub, Int.reduceEq, Int.reduceNe]
    rw [fillS] at h8
    cases hb : (whyS l w (pre ++ [left]) != 0)
    rotate_left
    · have hb' : ¬ whyS l w (pre ++ [left]) = 0 := by simpa using hb
      rw [if_neg hb', List.nil_append] at h8
      simp (config := { maxSteps := 400000 }) only [gg, g0, go_sem, ↓reduceIte, reduceCtorEq, Nat.reduceEqDiff, Nat.reduceAdd, Nat.reduceLT, Nat.reduceLeDiff, Nat.reduceSub, Int.reduceToNat, Int.reduceLE, Int.reduceLT, Int.reduceNeg, Int.reduceBEq, Int.reduceBNe, Nat.reduceMul, Int.reduceAdd, Int.reduceMul, Int.reduceSub, Int.reduceEq, Int.reduceNe]
      exact ⟨lo, pre ++ [left], ext, rfl, h9, .inl ⟨hlen, by simp, idx, h7, h8, h10⟩⟩
    have hb' : whyS l w (pre ++ [left]) = 0 := by simpa using hb
    rw [if_pos hb', List.singleton_append] at h8
    have hidx : all[idx]? = some (pre ++ [left]) := by rw [← List.head?_drop, h8]; rfl
    have hlti : idx < all.length := (List.getElem?_eq_some_iff.1 hidx).1
    have hdrop : all.drop (idx + 1) = tl := by rw [← List.drop_drop, h8]; rfl
    have hyl := hy idx ((pre ++ [left]).map intPV) lo (.row 1 [.ref .yl id] :: .row 1 ((pre ++ [left]).map fun x => .p (intPV x)) :: .row 1 [.slice (n0 + 1) l.length 0 l.length] ::
      .row 1 [.func (.func 96) [] [.p (bdLp l), .ptr (n0 + 2) 1 0 0, .p (bdWp w), .ptr n0 1 0 0, .ptr (n0 + 3) 1 0 0]] :: ext) 1 (by rw [List.getElem?_map, hidx]; rfl) h10 h9 (by simp)
    rw [List.length_map, hlen, Nat.add_comm 1 n0] at hyl
    simp only [intPV, bdLp, bdWp, bdWaxes, BdWish.pv] at hyl
    simp (config := { maxSteps := 400000 }) only [gg, g0, go_sem, ↓reduceIte, reduceCtorEq, Nat.reduceEqDiff, Nat.reduceAdd, Nat.reduceLT, Nat.reduceLeDiff, Nat.reduceSub, Int.reduceToNat, Int.reduceLE, Int.reduceLT, Int.reduceNeg, Int.reduceBEq, Int.reduceBNe, Nat.reduceMul, Int.reduceAdd, Int.reduceMul, Int.reduceSub, Int.reduceEq, Int.reduceNe]
    refine WR_yld hyl (fun v h' hr => ?_) (fun v h' hr => ?_)
    rotate_left
    · obtain ⟨_, _, _, _, hr⟩ := hr
      rcases hr with ⟨hr, _⟩ | ⟨hr, _⟩ <;> cases hr
    obtain ⟨lo', ext', rfl, k1, hr⟩ := hr
    rcases hr with ⟨hr, k2⟩ | ⟨hr, k2⟩
    · cases hr
      simp (config := { maxSteps := 400000 }) only [go_sem, ↓reduceIte, reduceCtorEq, Nat.reduceEqDiff, Nat.reduceAdd, Nat.reduceLT, Nat.reduceLeDiff, Nat.reduceSub, Int.reduceToNat, Int.reduceLE, Int.reduceLT, Int.reduceNeg, Int.reduceBEq, Int.reduceBNe, Nat.reduceMul, Int.reduceAdd, Int.reduceMul, Int.reduceSub, Int.reduceEq, Int.reduceNe]
      exact ⟨lo', pre ++ [left], ext ++ ext', by simp [fillH], k1, .inl ⟨hlen, by simp, idx + 1, by omega, hdrop, k2⟩⟩
    · cases hr
      simp (config := { maxSteps := 400000 }) only [go_sem, ↓reduceIte, reduceCtorEq, Nat.reduceEqDiff, Nat.reduceAdd, Nat.reduceLT, Nat.reduceLeDiff, Nat.reduceSub, Int.reduceToNat, Int.reduceLE, Int.reduceLT, Int.reduceNeg, Int.reduceBEq, Int.reduceBNe, Nat.reduceMul, Int.reduceAdd, Int.reduceMul, Int.reduceSub, Int.reduceEq, Int.reduceNe]
      exact ⟨lo', pre ++ [left], ext ++ ext', by simp [fillH], k1, .inr k2⟩
  | k + 1, pre, left, lo, cur, ext, idx, tl, h1, h2, h3, h4, h5, h6, h7, h8, h9, h10 => by
    refine hcall_of_wp draws (fn := Try.f96) (n := 60) (rs := [.tmp 9]) (by kernel_rfl) rfl rfl rfl ok96 (Nat.le_of_ble_eq_true rfl) ?_
    have hl5 := hl.len
    have gg := app_gg h9
    have g0 := app_g0 h9
    have ss := app_ss h9
    have hw1 : IntKind.i64.wrap ((l.length : Int) - 1) = (l.length : Int) - 1 := len_dec hl
    have hc : (((pre.length : Nat) : Int) == (l.length : Int) - 1) = false := by simp; omega
    have hltp : pre.length < w.parts.length := by have := hw.len; omega
    have hltp' : ((pre.length : Nat) : Int) < (w.parts.length : Int) := by omega
    obtain ⟨s, hs⟩ : ∃ s, w.parts[pre.length]? = some s := ⟨_, List.getElem?_eq_getElem hltp⟩
    have hsr := hw.parts s (List.mem_of_getElem? hs)
    have hw2 : IntKind.i64.wrap (((pre.length : Nat) : Int) + 1) = ((pre.length + 1 : Nat) : Int) := wrap_add (by omega) (by simp [room]; omega) (by omega)
    rw [fillS, hs] at h8
    dsimp only at h8
    obtain ⟨m, hm⟩ : ∃ m, (if s.hi < left then s.hi else left) = m := ⟨_, rfl⟩
    have hml : m ≤ left := by rw [← hm]; split <;> omega
    have hmin : (if s.hi < left then PV.int .i64 s.hi else PV.int .i64 left) = .int .i64 m := by rw [← hm]; split <;> rfl
    rw [hm] at h8
    simp (config := { maxSteps := 400000 }) only [fillH, gg, g0, ss, hw1, hc, hs, hltp', go_sem, ↓reduceIte, reduceCtorEq, Nat.reduceEqDiff, Nat.reduceAdd, Nat.reduceLT, Nat.reduceLeDiff, Nat.reduceSub, Int.reduceToNat, Int.reduceLE, Int.reduceLT, Int.reduceNeg, Int.reduceBEq, Int.reduceBNe, Nat.reduceMul, Int.reduceAdd, Int.reduceMul, Int.reduceSub, Int.reduceEq, Int.reduceNe]
    refine W_loopK [0, 1, 3, 4, 6] (σ := List Int × List Int × Heap × List Int × Heap × Nat)
      (fun q => ups s.lo m = q.1 ++ q.2.1 ∧ q.2.2.1.length = n0 ∧ q.2.2.2.1.length = l.length ∧ q.2.2.2.1.take pre.length = pre ∧ q.2.2.2.2.2 ≤ all.length ∧ all.drop q.2.2.2.2.2 = (q.2.1.flatMap fun n => fillS l w k (pre ++ [n]) (left - n)) ++ tl ∧ Inv q.2.2.2.2.2 q.2.2.1)
      (fun q => q.2.1.length) (fun q => [(10, .p (.int .i64 (s.lo + (q.1.length : Int))))]) (fun q => fillH l w n0 id q.2.2.1 q.2.2.2.1 q.2.2.2.2.1) ([], ups s.lo m, lo, cur, ext, idx) ⟨rfl, h9, h5, h6, h7, h8, h10⟩ (by simp (config := { maxSteps := 400000 }) only [fillH, go_sem, ↓reduceIte, reduceCtorEq, Nat.reduceEqDiff, Nat.reduceAdd, Nat.reduceLT, Nat.reduceLeDiff, Nat.reduceSub, Int.reduceToNat, Int.reduceLE, Int.reduceLT, Int.reduceNeg, Int.reduceBEq, Int.reduceBNe, Nat.reduceMul, Int.reduceAdd, Int.reduceMul, Int.reduceSub, Int.reduceEq, Int.reduceNe]) ?_ ?_
    · simp (config := { maxSteps := 400000 }) only [go_sem, ↓reduceIte, reduceCtorEq, Nat.reduceEqDiff, Nat.reduceAdd, Nat.reduceLT, Nat.reduceLeDiff, Nat.reduceSub, Int.reduceToNat, Int.reduceLE, Int.reduceLT, Int.reduceNeg, Int.reduceBEq, Int.reduceBNe, Nat.reduceMul, Int.reduceAdd, Int.reduceMul, Int.reduceSub, Int.reduceEq, Int.reduceNe] <;> simp
    clear h5 h6 h7 h8 h9 h10 gg g0 ss idx
    rintro ⟨done, rest, lo', cur', ext', idx⟩ ⟨e1, h9, h5, h6, h7, h8, h10⟩
    dsimp only at e1 h9 h5 h6 h7 h8 h10
    have gg := app_gg h9
    have g0 := app_g0 h9
    have ss := app_ss h9
    cases rest with
    | nil =>
      have hlen := ups_len s.lo m
      rw [e1, List.append_nil] at hlen
      have hgt : ¬ s.lo + (done.length : Int) ≤ m := by omega
      simp (config := { maxSteps := 400000 }) only [fillH, gg, g0, ss, hs, hltp', hmin, hm, hgt, go_sem, ↓reduceIte, reduceCtorEq, Nat.reduceEqDiff, Nat.reduceAdd, Nat.reduceLT, Nat.reduceLeDiff, Nat.reduceSub, Int.reduceToNat, Int.reduceLE, Int.reduceLT, Int.reduceNeg, Int.reduceBEq, Int.reduceBNe, Nat.reduceMul, Int.reduceAdd, Int.reduceMul, Int.reduceSub, Int.reduceEq, Int.reduceNe]
      exact ⟨lo', cur', ext', rfl, h9, .inl ⟨h5, h6, idx, h7, by simpa using h8, h10⟩⟩
    | cons y r =>
      have hy0 : (ups s.lo m)[done.length]? = some y := by rw [e1]; simp
      obtain ⟨hy1, hy2⟩ := ups_get hy0
      have hle : s.lo + (done.length : Int) ≤ m := by omega
      obtain ⟨c, hcur⟩ : ∃ c, cur'[pre.length]? = some c := ⟨_, List.getElem?_eq_getElem (by omega)⟩
      have hlt : ((pre.length : Nat) : Int) < (l.length : Int) := by omega
      have hset : (cur'.map fun x => AV.p (intPV x)).set pre.length (.p (intPV y)) = (cur'.set pre.length y).map fun x => AV.p (intPV x) := by rw [List.map_set]
      have hcs : (cur'.set pre.length y).take (pre.length + 1) = pre ++ [y] := take_set h6 hcur
      simp only [intPV] at hset
      have hwy : IntKind.i64.wrap (left - y) = left - y := wrap_in (by omega) (by omega)
      have hnx : IntKind.i64.wrap (y + 1) = y + 1 := wrap_in (by omega) (by omega)
      rw [List.flatMap_cons, List.append_assoc] at h8
      have ih := cFill hl hw hy k (pre ++ [y]) (left - y) lo' (cur'.set pre.length y) ext' idx ((r.flatMap fun n => fillS l w k (pre ++ [n]) (left - n)) ++ tl) (by simp; omega) (by omega) (by omega)
        (fun n hn => by
          rcases List.mem_append.1 hn with hn | hn
          · exact h4 n hn
          · simp at hn; omega) (by simpa using h5) (by rw [List.length_append]; exact hcs) h7 h8 h9 h10
      rw [hy1] at ih hset hwy hnx hcs
      simp (config := { maxSteps := 400000 }) only [fillH, gg, g0, ss, hs, hltp', hmin, hm, hle, h5, hcur, hlt, hset, hw2, hwy, go_sem, ↓reduceIte, reduceCtorEq, Nat.reduceEqDiff, Nat.reduceAdd, Nat.reduceLT, Nat.reduceLeDiff, Nat.reduceSub, Int.reduceToNat, Int.reduceLE, Int.reduceLT, Int.reduceNeg, Int.reduceBEq, Int.reduceBNe, Nat.reduceMul, Int.reduceAdd, Int.reduceMul, Int.reduceSub, Int.reduceEq, Int.reduceNe]
      simp only [fillH, bdLp, bdWp, bdWaxes, BdWish.pv, intPV, List.length_append, List.length_singleton] at ih
      refine WF_call ih (fun v h' hr => ?_) (fun v h' hr => ?_)
      rotate_left
      · obtain ⟨_, _, _, _, _, hr⟩ := hr
        rcases hr with ⟨hr, _⟩ | ⟨hr, _⟩ <;> cases hr
      obtain ⟨lo2, cur2, ext2, rfl, k1, hr⟩ := hr
      rcases hr with ⟨hr, k2, k3, idx2, k4, k5, k6⟩ | ⟨hr, k2⟩
      · cases hr
        simp (config := { maxSteps := 400000 }) only [go_sem, ↓reduceIte, reduceCtorEq, Nat.reduceEqDiff, Nat.reduceAdd, Nat.reduceLT, Nat.reduceLeDiff, Nat.reduceSub, Int.reduceToNat, Int.reduceLE, Int.reduceLT, Int.reduceNeg, Int.reduceBEq, Int.reduceBNe, Nat.reduceMul, Int.reduceAdd, Int.reduceMul, Int.reduceSub, Int.reduceEq, Int.reduceNe]
        refine WQ_headK (done ++ [y], r, lo2, cur2, ext2, idx2) ⟨by simp [e1], k1, k2, ?_, k4, k5, k6⟩ (by simp) rfl ?_
        · have := congrArg (List.take pre.length) k3
          rw [List.take_take, List.take_left' rfl] at this
          rwa [Nat.min_eq_left (by simp)] at this
        · simp (config := { maxSteps := 400000 }) only [hnx, List.length_append, List.length_singleton, go_sem, ↓reduceIte, reduceCtorEq, Nat.reduceEqDiff, Nat.reduceAdd, Nat.reduceLT, Nat.reduceLeDiff, Nat.reduceSub, Int.reduceToNat, Int.reduceLE, Int.reduceLT, Int.reduceNeg, Int.reduceBEq, Int.reduceBNe, Nat.reduceMul, Int.reduceAdd, Int.reduceMul, Int.reduceSub, Int.reduceEq, Int.reduceNe]
          omega
      · cases hr
        simp (config := { maxSteps := 400000 }) only [go_sem, ↓reduceIte, reduceCtorEq, Nat.reduceEqDiff, Nat.reduceAdd, Nat.reduceLT, Nat.reduceLeDiff, Nat.reduceSub, Int.reduceToNat, Int.reduceLE, Int.reduceLT, Int.reduceNeg, Int.reduceBEq, Int.reduceBNe, Nat.reduceMul, Int.reduceAdd, Int.reduceMul, Int.reduceSub, Int.reduceEq, Int.reduceNe]
        exact ⟨lo2, cur2, ext2, rfl, k1, .inr k2⟩
end Abs
end Go.Proofs.Ythekmbikolpmlaa
