/-
  CONTRACTS: Cheapest, Stays; in the program and in the reference.
-/
import Derived.Test.YthekmbikolpmlaaBdFill
namespace Go.Proofs.Ythekmbikolpmlaa
namespace Abs
set_option linter.unusedSimpArgs false
set_option maxRecDepth 4000

def fitPV (l : List BdWax) (w : BdWish) : PV := .func (.func 95) [] [bdLp l, bdWp w]
theorem iFitting {l : List BdWax} {w : BdWish} (hl : BdWaxesOk l) (hw : WishOk l.length w) : IterM Try.prog (fitPV l w) 1 ((fits l w).map fun r => r.map intPV) := by
  refine ⟨_, _, _, rfl, fun id Inv Fin h0 hid hy hi => ?_⟩
  have hl5 := hl.len
  have gg := app_gg (lo := h0) rfl
  have g0 := app_g0 (lo := h0) rfl
  have ss := app_ss (lo := h0) rfl
  have hrm : ((l.length : Nat) : Int) ≤ (room : Int) := by simp [room]; omega
  refine hcall_of_wp draws (fn := Try.f95) (n := 12) (rs := []) (by kernel_rfl) rfl rfl rfl ok95 (Nat.le_of_ble_eq_true rfl) ?_
  simp (config := { maxSteps := 400000 }) only [hrm, Int.le_refl, List.append_assoc, List.length_append, List.length_singleton, gg, g0, ss, go_sem, ↓reduceIte, reduceCtorEq, Nat.reduceEqDiff, Nat.reduceAdd, Nat.reduceLT, Nat.reduceLeDiff, Nat.reduceSub, Int.reduceToNat, Int.reduceLE, Int.reduceLT, Int.reduceNeg, Int.reduceBEq, Int.reduceBNe, Nat.reduceMul, Int.reduceAdd, Int.reduceMul, Int.reduceSub, Int.reduceEq, Int.reduceNe]
  have hfill := cFill hl hw hy (l.length - 1) [] 20 h0 (List.replicate l.length 0) [] 0 [] (by simp; omega) (by omega) (by omega) (by simp) (by simp) (by simp) (by omega) (by rw [fill_all hl hw]; simp) rfl hi
  simp only [fillH, bdLp, bdWp, bdWaxes, BdWish.pv, intPV, List.map_replicate, List.length_nil, Int.natCast_zero, Int.ofNat_eq_natCast, Int.cast_ofNat_Int] at hfill
  refine WF_call hfill (fun v h' hr => ?_) (fun v h' hr => ?_)
  rotate_left
  · obtain ⟨_, _, _, _, _, hr⟩ := hr
    rcases hr with ⟨hr, _⟩ | ⟨hr, _⟩ <;> cases hr
  obtain ⟨lo2, cur2, ext2, rfl, k1, hr⟩ := hr
  have fin : ∀ (k : Nat), k ≤ (fits l w).length → (fits l w).drop k = [] → k = (fits l w).length := fun k h1 h2 => by
    have := congrArg List.length h2
    simp at this; omega
  rcases hr with ⟨hr, k2, k3, idx2, k4, k5, k6⟩ | ⟨hr, k2⟩
  · cases hr
    simp (config := { maxSteps := 400000 }) only [go_sem, ↓reduceIte, reduceCtorEq, Nat.reduceEqDiff, Nat.reduceAdd, Nat.reduceLT, Nat.reduceLeDiff, Nat.reduceSub, Int.reduceToNat, Int.reduceLE, Int.reduceLT, Int.reduceNeg, Int.reduceBEq, Int.reduceBNe, Nat.reduceMul, Int.reduceAdd, Int.reduceMul, Int.reduceSub, Int.reduceEq, Int.reduceNe]
    refine ⟨lo2, _, rfl, k1, .inl ?_⟩
    have := fin idx2 k4 k5
    simpa [← this] using k6
  · cases hr
    simp (config := { maxSteps := 400000 }) only [go_sem, ↓reduceIte, reduceCtorEq, Nat.reduceEqDiff, Nat.reduceAdd, Nat.reduceLT, Nat.reduceLeDiff, Nat.reduceSub, Int.reduceToNat, Int.reduceLE, Int.reduceLT, Int.reduceNeg, Int.reduceBEq, Int.reduceBNe, Nat.reduceMul, Int.reduceAdd, Int.reduceMul, Int.reduceSub, Int.reduceEq, Int.reduceNe]
    exact ⟨lo2, _, rfl, k1, .inr k2⟩
theorem cFitting (l : List BdWax) (w : BdWish) : PCall Try.prog 74 [bdWaxes l, w.pv] (fitPV l w) := by
  refine pcall_of_wp_frz draws (fn := Try.f74) (n := 6) (rs := [.tmp 4]) (by kernel_rfl) rfl rfl rfl ok74 (Nat.le_of_ble_eq_true rfl) ?_
  simp (config := { maxSteps := 400000 }) only [fitPV, go_sem, ↓reduceIte, reduceCtorEq, Nat.reduceEqDiff, Nat.reduceAdd, Nat.reduceLT, Nat.reduceLeDiff, Nat.reduceSub, Int.reduceToNat, Int.reduceLE, Int.reduceLT, Int.reduceNeg, Int.reduceBEq, Int.reduceBNe, Nat.reduceMul, Int.reduceAdd, Int.reduceMul, Int.reduceSub, Int.reduceEq, Int.reduceNe]

/-! a blend of parts that lie in the caller's memory -/
theorem hBlend (ps : Ps) (b1 : Bool) (id : Nat) (h : Heap) (hid : h[id]? = some (.row 1 (ps.map fun p => .p (intPV p.2)))) (hl : ps.length ≤ 5) :
    HCall Try.prog 61 [.p (.slice 7 (ps.map fun p => p.1.pv) b1), .slice id ps.length 0 ps.length] h (fun r h' => r = .ret (.p (bdParts ps)) ∧ h' = h) := by
  refine hcall_fresh_of_wp draws (fn := Try.f61) (n := 29) (rs := [.tmp 4]) (by kernel_rfl) rfl rfl rfl ok61 (Nat.le_of_ble_eq_true rfl) ?_
  have hlt0 : id < h.length := (List.getElem?_eq_some_iff.1 hid).1
  have hidt : ∀ t, (h ++ t)[id]? = some (.row 1 (ps.map fun p => .p (intPV p.2))) := fun t => by rw [List.getElem?_append_left hlt0]; exact hid
  simp only [intPV] at hidt
  have gg := app_gg (lo := h) rfl
  have g0 := app_g0 (lo := h) rfl
  have ss := app_ss (lo := h) rfl
  have s0 : ∀ t x, (h ++ t).set h.length x = h ++ t.set 0 x := fun t x => ss t 0 x
  have hrm : ((ps.length : Nat) : Int) ≤ (room : Int) := by simp [room]; omega
  have hr0 : List.replicate ps.length partZ = blRow ps [] := by simp [blRow]
  simp only [partZ] at hr0
  simp (config := { maxSteps := 400000 }) only [hrm, Int.le_refl, hr0, hidt, gg, g0, ss, s0, List.append_assoc, go_sem, ↓reduceIte, reduceCtorEq, Nat.reduceEqDiff, Nat.reduceAdd, Nat.reduceLT, Nat.reduceLeDiff, Nat.reduceSub, Int.reduceToNat, Int.reduceLE, Int.reduceLT, Int.reduceNeg, Int.reduceBEq, Int.reduceBNe, Nat.reduceMul, Int.reduceAdd, Int.reduceMul, Int.reduceSub, Int.reduceEq, Int.reduceNe]
  refine W_rangeK [1, 5, 11, 12] ps (by omega) (τ := Heap) (fun _ _ _ => True) (fun done _ => [(13, .p (.int .i64 done.length))]) (fun done ext => h ++ (.row 8 (blRow ps done) :: ext)) [] trivial (by simp (config := { maxSteps := 400000 }) only [go_sem, ↓reduceIte, reduceCtorEq, Nat.reduceEqDiff, Nat.reduceAdd, Nat.reduceLT, Nat.reduceLeDiff, Nat.reduceSub, Int.reduceToNat, Int.reduceLE, Int.reduceLT, Int.reduceNeg, Int.reduceBEq, Int.reduceBNe, Nat.reduceMul, Int.reduceAdd, Int.reduceMul, Int.reduceSub, Int.reduceEq, Int.reduceNe]) ?_ ?_ ?_
  · simp (config := { maxSteps := 400000 }) only [go_sem, ↓reduceIte, reduceCtorEq, Nat.reduceEqDiff, Nat.reduceAdd, Nat.reduceLT, Nat.reduceLeDiff, Nat.reduceSub, Int.reduceToNat, Int.reduceLE, Int.reduceLT, Int.reduceNeg, Int.reduceBEq, Int.reduceBNe, Nat.reduceMul, Int.reduceAdd, Int.reduceMul, Int.reduceSub, Int.reduceEq, Int.reduceNe]
  · intro ext _
    have hz : (blRow ps ps) = ps.map fun p => .p (partPV p) := by simp [blRow]
    simp only [partPV] at hz
    simp (config := { maxSteps := 400000 }) only [hz, gg, g0, go_sem, ↓reduceIte, reduceCtorEq, Nat.reduceEqDiff, Nat.reduceAdd, Nat.reduceLT, Nat.reduceLeDiff, Nat.reduceSub, Int.reduceToNat, Int.reduceLE, Int.reduceLT, Int.reduceNeg, Int.reduceBEq, Int.reduceBNe, Nat.reduceMul, Int.reduceAdd, Int.reduceMul, Int.reduceSub, Int.reduceEq, Int.reduceNe]
    rfl
  · intro done x r ext e1 _ hx hlt hnx
    have h1 := blRow_len e1
    have h2 := blRow_get e1
    have h3 := blRow_set e1
    simp only [partZ] at h2
    simp only [partPV] at h3
    have ge := app_g0 (lo := ext) rfl
    have se : ∀ t x, (ext ++ t).set ext.length x = ext ++ t.set 0 x := fun t x => app_ss (lo := ext) rfl t 0 x
    simp (config := { maxSteps := 400000 }) only [hlt, hx, h1, h2, h3, hidt, gg, g0, ss, s0, ge, se, List.append_assoc, List.length_append, go_sem, ↓reduceIte, reduceCtorEq, Nat.reduceEqDiff, Nat.reduceAdd, Nat.reduceLT, Nat.reduceLeDiff, Nat.reduceSub, Int.reduceToNat, Int.reduceLE, Int.reduceLT, Int.reduceNeg, Int.reduceBEq, Int.reduceBNe, Nat.reduceMul, Int.reduceAdd, Int.reduceMul, Int.reduceSub, Int.reduceEq, Int.reduceNe]
    refine WQ_nextK e1 _ trivial rfl ?_
    simp (config := { maxSteps := 400000 }) only [hnx, go_sem, ↓reduceIte, reduceCtorEq, Nat.reduceEqDiff, Nat.reduceAdd, Nat.reduceLT, Nat.reduceLeDiff, Nat.reduceSub, Int.reduceToNat, Int.reduceLE, Int.reduceLT, Int.reduceNeg, Int.reduceBEq, Int.reduceBNe, Nat.reduceMul, Int.reduceAdd, Int.reduceMul, Int.reduceSub, Int.reduceEq, Int.reduceNe]

/-! the cheapest -/
def bdPrice (l : List BdWax) (r : List Int) : Int := sumP fPrice (l.zip r)
def cheapGo (pr : List Int → Int) : Option (List Int) → List (List Int) → Option (List Int)
  | b, [] => b
  | none, r :: t => cheapGo pr (some r) t
  | some b, r :: t => if pr r < pr b then cheapGo pr (some r) t else cheapGo pr (some b) t
theorem cheapGo_snoc (pr : List Int → Int) : ∀ (t : List (List Int)) (b : Option (List Int)) (r : List Int), cheapGo pr b (t ++ [r]) = cheapGo pr (cheapGo pr b t) [r]
  | [], b, r => by cases b <;> rfl
  | x :: t, none, r => by rw [List.cons_append, cheapGo, cheapGo_snoc pr t, cheapGo]
  | x :: t, some b, r => by
    rw [List.cons_append, cheapGo, cheapGo]
    split
    · rw [cheapGo_snoc pr t]
    · rw [cheapGo_snoc pr t]
theorem cheapGo_mem (pr : List Int → Int) : ∀ (t : List (List Int)) (b : Option (List Int)) (r : List Int), cheapGo pr b t = some r → b = some r ∨ r ∈ t
  | [], b, r, h => by cases b <;> simp_all [cheapGo]
  | x :: t, none, r, h => by
    rw [cheapGo] at h
    rcases cheapGo_mem pr t _ r h with h | h
    · cases h; exact .inr (by simp)
    · exact .inr (by simp [h])
  | x :: t, some b, r, h => by
    rw [cheapGo] at h
    split at h
    · rcases cheapGo_mem pr t _ r h with h | h
      · cases h; exact .inr (by simp)
      · exact .inr (by simp [h])
    · rcases cheapGo_mem pr t _ r h with h | h
      · exact .inl h
      · exact .inr (by simp [h])
theorem take_snoc {α : Type} {l : List α} {k : Nat} {x : α} (h : l[k]? = some x) : l.take (k + 1) = l.take k ++ [x] := by
  rw [List.take_add_one, h]; rfl
def bdCheapest (l : List BdWax) (w : BdWish) : List Int × Int × Int :=
  if wishErr l w = 0 then
    match cheapGo (bdPrice l) none (fits l w) with
    | none => ([], 0, 9)
    | some b => (b, bdPrice l b, 0)
  else ([], 0, wishErr l w)
def bestPV (v : List Int × Int × Int) : PV := .tuple [.slice 1 (v.1.map intPV) false, .int .i64 v.2.1, .int .i64 v.2.2]
def optPV : Option (List Int) → PV
  | none => .nilslice
  | some b => .slice 1 (b.map intPV) false
def optPrice (l : List BdWax) : Option (List Int) → Int
  | none => 0
  | some b => bdPrice l b
set_option maxHeartbeats 1000000 in
theorem cCheapest (l : List BdWax) (w : BdWish) : PCall Try.prog 29 [bdWaxes l, w.pv] (bestPV (bdCheapest l w)) := by
  refine pcall_of_wp_frzN draws (fn := Try.f29) (n := 37) (rs := [.cell 4 31, .cell 5 3, .tmp 6]) (by kernel_rfl) rfl rfl rfl ok29 (Nat.le_of_ble_eq_true rfl) ?_
  simp (config := { maxSteps := 400000 }) only [H29, W_drawH, go_sem, ↓reduceIte, reduceCtorEq, Nat.reduceEqDiff, Nat.reduceAdd, Nat.reduceLT, Nat.reduceLeDiff, Nat.reduceSub, Int.reduceToNat, Int.reduceLE, Int.reduceLT, Int.reduceNeg, Int.reduceBEq, Int.reduceBNe, Nat.reduceMul, Int.reduceAdd, Int.reduceMul, Int.reduceSub, Int.reduceEq, Int.reduceNe]
  (first | refine WF_pure (cOdd l w) rfl ?_ | refine WDQ_pure (cOdd l w) rfl ?_)
  simp (config := { maxSteps := 400000 }) only [go_sem, ↓reduceIte, reduceCtorEq, Nat.reduceEqDiff, Nat.reduceAdd, Nat.reduceLT, Nat.reduceLeDiff, Nat.reduceSub, Int.reduceToNat, Int.reduceLE, Int.reduceLT, Int.reduceNeg, Int.reduceBEq, Int.reduceBNe, Nat.reduceMul, Int.reduceAdd, Int.reduceMul, Int.reduceSub, Int.reduceEq, Int.reduceNe]
  refine WB_split (fun he => ?_) (fun he => ?_)
  · have he' : ¬ wishErr l w = 0 := by simpa using he
    simp (config := { maxSteps := 400000 }) only [H29, W_drawH, bestPV, bdCheapest, if_neg he', go_sem, ↓reduceIte, reduceCtorEq, Nat.reduceEqDiff, Nat.reduceAdd, Nat.reduceLT, Nat.reduceLeDiff, Nat.reduceSub, Int.reduceToNat, Int.reduceLE, Int.reduceLT, Int.reduceNeg, Int.reduceBEq, Int.reduceBNe, Nat.reduceMul, Int.reduceAdd, Int.reduceMul, Int.reduceSub, Int.reduceEq, Int.reduceNe]
    first | exact .inl (.inl rfl) | exact .inl (.inr ⟨rfl, 1, rfl⟩) | exact .inr ⟨_, _, rfl, rfl, .inl rfl, .inl rfl, trivial⟩ | exact .inr ⟨_, _, rfl, rfl, .inr ⟨rfl, 1, rfl⟩, .inl rfl, trivial⟩ | exact ⟨1, rfl⟩ | (simp; done) | (refine .inr ⟨_, _, rfl, rfl, ?_⟩; repeat' (first | exact trivial | exact .inl rfl | exact .inr ⟨rfl, 1, rfl⟩ | refine ⟨?_, ?_⟩))
  have he' : wishErr l w = 0 := by simpa using he
  obtain ⟨hl, hw⟩ := wishOk_of he'
  have hl5 := hl.len
  simp (config := { maxSteps := 400000 }) only [go_sem, ↓reduceIte, reduceCtorEq, Nat.reduceEqDiff, Nat.reduceAdd, Nat.reduceLT, Nat.reduceLeDiff, Nat.reduceSub, Int.reduceToNat, Int.reduceLE, Int.reduceLT, Int.reduceNeg, Int.reduceBEq, Int.reduceBNe, Nat.reduceMul, Int.reduceAdd, Int.reduceMul, Int.reduceSub, Int.reduceEq, Int.reduceNe]
  (first | refine WF_pure (cFitting l w) rfl ?_ | refine WDQ_pure (cFitting l w) rfl ?_)
  simp (config := { maxSteps := 400000 }) only [fitPV, go_sem, ↓reduceIte, reduceCtorEq, Nat.reduceEqDiff, Nat.reduceAdd, Nat.reduceLT, Nat.reduceLeDiff, Nat.reduceSub, Int.reduceToNat, Int.reduceLE, Int.reduceLT, Int.reduceNeg, Int.reduceBEq, Int.reduceBNe, Nat.reduceMul, Int.reduceAdd, Int.reduceMul, Int.reduceSub, Int.reduceEq, Int.reduceNe]
  have hspec : bdCheapest l w = match cheapGo (bdPrice l) none (fits l w) with | none => ([], 0, 9) | some b => (b, bdPrice l b, 0) := by rw [bdCheapest, if_pos he']
  rw [hspec]
  have hmem : ∀ k b, cheapGo (bdPrice l) none ((fits l w).take k) = some b → RecOk l.length b := fun k b h => by
    rcases cheapGo_mem _ _ _ _ h with h | h
    · cases h
    · exact (fits_rec hl (List.mem_of_mem_take h)).1
  refine W_iterM (l := (fits l w).map fun r => r.map intPV) (fun o k h => h = [.row 1 [.p (bdWaxes l)], .row 5 [.p w.pv], .row 1 [.p (optPV (cheapGo (bdPrice l) none ((fits l w).take k)))], .row 1 [.p (.int .i64 (optPrice l (cheapGo (bdPrice l) none ((fits l w).take k))))], .dblock, o]) (fun _ _ => False)
    rfl (by simp (config := { maxSteps := 400000 }) only [fitPV, go_sem, ↓reduceIte, reduceCtorEq, Nat.reduceEqDiff, Nat.reduceAdd, Nat.reduceLT, Nat.reduceLeDiff, Nat.reduceSub, Int.reduceToNat, Int.reduceLE, Int.reduceLT, Int.reduceNeg, Int.reduceBEq, Int.reduceBNe, Nat.reduceMul, Int.reduceAdd, Int.reduceMul, Int.reduceSub, Int.reduceEq, Int.reduceNe]) (iFitting hl hw) draws (by kernel_rfl) rfl (by kernel_rfl) (by kernel_rfl) ?_ ?_ ?_ ?_ (fun _ _ _ h => h.elim)
  · rintro o k h rfl; simp
  · intro o
    simp (config := { maxSteps := 400000 }) only [cheapGo, optPV, optPrice, go_sem, ↓reduceIte, reduceCtorEq, Nat.reduceEqDiff, Nat.reduceAdd, Nat.reduceLT, Nat.reduceLeDiff, Nat.reduceSub, Int.reduceToNat, Int.reduceLE, Int.reduceLT, Int.reduceNeg, Int.reduceBEq, Int.reduceBNe, Nat.reduceMul, Int.reduceAdd, Int.reduceMul, Int.reduceSub, Int.reduceEq, Int.reduceNe]
  · rintro oR oB oD k xs lo mid j hk rfl _ hj
    rw [List.getElem?_map, Option.map_eq_some_iff] at hk
    obtain ⟨r, hk, rfl⟩ := hk
    have hro := (fits_rec hl (List.mem_of_getElem? hk)).1
    have hps := psOk_zip hl hro.rng
    have hne : ¬ (r.map intPV = []) := by
      intro h
      have := congrArg List.length h
      have h2 := hro.len
      simp at this
      subst this
      simp at h2; omega
    have hne2 : r ≠ [] := fun h => hne (by rw [h]; rfl)
    rw [take_snoc hk, cheapGo_snoc]
    have hmk := hmem k
    generalize cheapGo (bdPrice l) none ((fits l w).take k) = bo at hmk
    have htk : (r.map intPV).take r.length = r.map intPV := List.take_of_length_le (by simp)
    have hz1 : ((l.zip r).map fun p => p.1.pv) = l.map BdWax.pv := zip_fst BdWax.pv hro.len
    have hz2 : ((l.zip r).map fun p => AV.p (intPV p.2)) = r.map fun n => AV.p (intPV n) := zip_snd (fun n => AV.p (intPV n)) hro.len
    have hzl : (l.zip r).length = r.length := by simp [hro.len]
    have hbl : ∀ a0 a1 a2 a3 a4 a5, HCall Try.prog 61 [.p (bdWaxes l), .slice (j + 6) r.length 0 r.length] (a0 :: a1 :: a2 :: a3 :: a4 :: a5 :: mid) (fun r' h' => r' = .ret (.p (bdParts (l.zip r))) ∧ h' = a0 :: a1 :: a2 :: a3 :: a4 :: a5 :: mid) := fun a0 a1 a2 a3 a4 a5 => by
      have := hBlend (l.zip r) false (j + 6) (a0 :: a1 :: a2 :: a3 :: a4 :: a5 :: mid) (by rw [hz2]; simpa [Function.comp_def] using hj) hps.len
      rwa [hz1, hzl] at this
    simp only [bdWaxes, bdParts] at hbl
    simp (config := { maxSteps := 400000 }) only [go_sem, ↓reduceIte, reduceCtorEq, Nat.reduceEqDiff, Nat.reduceAdd, Nat.reduceLT, Nat.reduceLeDiff, Nat.reduceSub, Int.reduceToNat, Int.reduceLE, Int.reduceLT, Int.reduceNeg, Int.reduceBEq, Int.reduceBNe, Nat.reduceMul, Int.reduceAdd, Int.reduceMul, Int.reduceSub, Int.reduceEq, Int.reduceNe]
    refine WF_ret (hbl _ _ _ _ _ _) ?_
    simp (config := { maxSteps := 400000 }) only [go_sem, ↓reduceIte, reduceCtorEq, Nat.reduceEqDiff, Nat.reduceAdd, Nat.reduceLT, Nat.reduceLeDiff, Nat.reduceSub, Int.reduceToNat, Int.reduceLE, Int.reduceLT, Int.reduceNeg, Int.reduceBEq, Int.reduceBNe, Nat.reduceMul, Int.reduceAdd, Int.reduceMul, Int.reduceSub, Int.reduceEq, Int.reduceNe]
    (first | refine WF_pure (cWhole_price (l.zip r) false hps) rfl ?_ | refine WDQ_pure (cWhole_price (l.zip r) false hps) rfl ?_)
    simp (config := { maxSteps := 400000 }) only [go_sem, ↓reduceIte, reduceCtorEq, Nat.reduceEqDiff, Nat.reduceAdd, Nat.reduceLT, Nat.reduceLeDiff, Nat.reduceSub, Int.reduceToNat, Int.reduceLE, Int.reduceLT, Int.reduceNeg, Int.reduceBEq, Int.reduceBNe, Nat.reduceMul, Int.reduceAdd, Int.reduceMul, Int.reduceSub, Int.reduceEq, Int.reduceNe]
    have hprice : sumP fPrice (l.zip r) = bdPrice l r := rfl
    rw [hprice]
    cases bo with
    | none =>
      simp (config := { maxSteps := 400000 }) only [optPV, go_sem, ↓reduceIte, reduceCtorEq, Nat.reduceEqDiff, Nat.reduceAdd, Nat.reduceLT, Nat.reduceLeDiff, Nat.reduceSub, Int.reduceToNat, Int.reduceLE, Int.reduceLT, Int.reduceNeg, Int.reduceBEq, Int.reduceBNe, Nat.reduceMul, Int.reduceAdd, Int.reduceMul, Int.reduceSub, Int.reduceEq, Int.reduceNe]
      refine WF_new (nClone r false hne2 (by have := hro.len; omega)) ?_ ?_
      · simp (config := { maxSteps := 400000 }) only [hj, htk, go_sem, ↓reduceIte, reduceCtorEq, Nat.reduceEqDiff, Nat.reduceAdd, Nat.reduceLT, Nat.reduceLeDiff, Nat.reduceSub, Int.reduceToNat, Int.reduceLE, Int.reduceLT, Int.reduceNeg, Int.reduceBEq, Int.reduceBNe, Nat.reduceMul, Int.reduceAdd, Int.reduceMul, Int.reduceSub, Int.reduceEq, Int.reduceNe]
      simp (config := { maxSteps := 400000 }) only [go_sem, ↓reduceIte, reduceCtorEq, Nat.reduceEqDiff, Nat.reduceAdd, Nat.reduceLT, Nat.reduceLeDiff, Nat.reduceSub, Int.reduceToNat, Int.reduceLE, Int.reduceLT, Int.reduceNeg, Int.reduceBEq, Int.reduceBNe, Nat.reduceMul, Int.reduceAdd, Int.reduceMul, Int.reduceSub, Int.reduceEq, Int.reduceNe]
      refine ⟨_, [], ?_, rfl, .inl rfl⟩
      simp (config := { maxSteps := 400000 }) only [cheapGo, optPV, optPrice, List.append_nil, go_sem, ↓reduceIte, reduceCtorEq, Nat.reduceEqDiff, Nat.reduceAdd, Nat.reduceLT, Nat.reduceLeDiff, Nat.reduceSub, Int.reduceToNat, Int.reduceLE, Int.reduceLT, Int.reduceNeg, Int.reduceBEq, Int.reduceBNe, Nat.reduceMul, Int.reduceAdd, Int.reduceMul, Int.reduceSub, Int.reduceEq, Int.reduceNe]
    | some b =>
      have hbo := hmk b rfl
      have hbn : ¬ (b.map intPV = []) := by
        intro h
        have := congrArg List.length h
        have h2 := hbo.len
        simp at this
        subst this
        simp at h2; omega
      simp (config := { maxSteps := 400000 }) only [optPV, optPrice, hbn, go_sem, ↓reduceIte, reduceCtorEq, Nat.reduceEqDiff, Nat.reduceAdd, Nat.reduceLT, Nat.reduceLeDiff, Nat.reduceSub, Int.reduceToNat, Int.reduceLE, Int.reduceLT, Int.reduceNeg, Int.reduceBEq, Int.reduceBNe, Nat.reduceMul, Int.reduceAdd, Int.reduceMul, Int.reduceSub, Int.reduceEq, Int.reduceNe]
      cases hlt : decide (bdPrice l r < bdPrice l b)
      · have hlt' : ¬ bdPrice l r < bdPrice l b := by simpa using hlt
        simp (config := { maxSteps := 400000 }) only [go_sem, ↓reduceIte, reduceCtorEq, Nat.reduceEqDiff, Nat.reduceAdd, Nat.reduceLT, Nat.reduceLeDiff, Nat.reduceSub, Int.reduceToNat, Int.reduceLE, Int.reduceLT, Int.reduceNeg, Int.reduceBEq, Int.reduceBNe, Nat.reduceMul, Int.reduceAdd, Int.reduceMul, Int.reduceSub, Int.reduceEq, Int.reduceNe]
        refine ⟨_, [], ?_, rfl, .inl rfl⟩
        simp (config := { maxSteps := 400000 }) only [if_neg hlt', cheapGo, optPV, optPrice, List.append_nil, go_sem, ↓reduceIte, reduceCtorEq, Nat.reduceEqDiff, Nat.reduceAdd, Nat.reduceLT, Nat.reduceLeDiff, Nat.reduceSub, Int.reduceToNat, Int.reduceLE, Int.reduceLT, Int.reduceNeg, Int.reduceBEq, Int.reduceBNe, Nat.reduceMul, Int.reduceAdd, Int.reduceMul, Int.reduceSub, Int.reduceEq, Int.reduceNe]
      · have hlt' : bdPrice l r < bdPrice l b := by simpa using hlt
        simp (config := { maxSteps := 400000 }) only [go_sem, ↓reduceIte, reduceCtorEq, Nat.reduceEqDiff, Nat.reduceAdd, Nat.reduceLT, Nat.reduceLeDiff, Nat.reduceSub, Int.reduceToNat, Int.reduceLE, Int.reduceLT, Int.reduceNeg, Int.reduceBEq, Int.reduceBNe, Nat.reduceMul, Int.reduceAdd, Int.reduceMul, Int.reduceSub, Int.reduceEq, Int.reduceNe]
        refine WF_new (nClone r false hne2 (by have := hro.len; omega)) ?_ ?_
        · simp (config := { maxSteps := 400000 }) only [hj, htk, go_sem, ↓reduceIte, reduceCtorEq, Nat.reduceEqDiff, Nat.reduceAdd, Nat.reduceLT, Nat.reduceLeDiff, Nat.reduceSub, Int.reduceToNat, Int.reduceLE, Int.reduceLT, Int.reduceNeg, Int.reduceBEq, Int.reduceBNe, Nat.reduceMul, Int.reduceAdd, Int.reduceMul, Int.reduceSub, Int.reduceEq, Int.reduceNe]
        simp (config := { maxSteps := 400000 }) only [go_sem, ↓reduceIte, reduceCtorEq, Nat.reduceEqDiff, Nat.reduceAdd, Nat.reduceLT, Nat.reduceLeDiff, Nat.reduceSub, Int.reduceToNat, Int.reduceLE, Int.reduceLT, Int.reduceNeg, Int.reduceBEq, Int.reduceBNe, Nat.reduceMul, Int.reduceAdd, Int.reduceMul, Int.reduceSub, Int.reduceEq, Int.reduceNe]
        refine ⟨_, [], ?_, rfl, .inl rfl⟩
        simp (config := { maxSteps := 400000 }) only [if_pos hlt', cheapGo, optPV, optPrice, List.append_nil, go_sem, ↓reduceIte, reduceCtorEq, Nat.reduceEqDiff, Nat.reduceAdd, Nat.reduceLT, Nat.reduceLeDiff, Nat.reduceSub, Int.reduceToNat, Int.reduceLE, Int.reduceLT, Int.reduceNeg, Int.reduceBEq, Int.reduceBNe, Nat.reduceMul, Int.reduceAdd, Int.reduceMul, Int.reduceSub, Int.reduceEq, Int.reduceNe]
  · rintro o lo mid rfl _
    have hlen : (fits l w).take (((fits l w).map fun r => r.map intPV).length) = fits l w := by simp
    rw [hlen]
    have hmk := hmem (fits l w).length
    rw [List.take_length] at hmk
    generalize cheapGo (bdPrice l) none (fits l w) = bo at hmk
    simp (config := { maxSteps := 400000 }) only [go_sem, ↓reduceIte, reduceCtorEq, Nat.reduceEqDiff, Nat.reduceAdd, Nat.reduceLT, Nat.reduceLeDiff, Nat.reduceSub, Int.reduceToNat, Int.reduceLE, Int.reduceLT, Int.reduceNeg, Int.reduceBEq, Int.reduceBNe, Nat.reduceMul, Int.reduceAdd, Int.reduceMul, Int.reduceSub, Int.reduceEq, Int.reduceNe]
    cases bo with
    | none =>
      simp (config := { maxSteps := 400000 }) only [optPV, bestPV, leave_collected, H29, W_drawH, go_sem, ↓reduceIte, reduceCtorEq, Nat.reduceEqDiff, Nat.reduceAdd, Nat.reduceLT, Nat.reduceLeDiff, Nat.reduceSub, Int.reduceToNat, Int.reduceLE, Int.reduceLT, Int.reduceNeg, Int.reduceBEq, Int.reduceBNe, Nat.reduceMul, Int.reduceAdd, Int.reduceMul, Int.reduceSub, Int.reduceEq, Int.reduceNe]
      first | exact .inl (.inl rfl) | exact .inl (.inr ⟨rfl, 1, rfl⟩) | exact .inr ⟨_, _, rfl, rfl, .inl rfl, .inl rfl, trivial⟩ | exact .inr ⟨_, _, rfl, rfl, .inr ⟨rfl, 1, rfl⟩, .inl rfl, trivial⟩ | exact ⟨1, rfl⟩ | (simp; done) | (refine .inr ⟨_, _, rfl, rfl, ?_⟩; repeat' (first | exact trivial | exact .inl rfl | exact .inr ⟨rfl, 1, rfl⟩ | refine ⟨?_, ?_⟩))
    | some b =>
      have hbo := hmk b rfl
      have hbn : ¬ (b.map intPV = []) := by
        intro h
        have := congrArg List.length h
        have h2 := hbo.len
        simp at this
        subst this
        simp at h2; omega
      simp (config := { maxSteps := 400000 }) only [optPV, optPrice, bestPV, hbn, leave_collected, H29, W_drawH, go_sem, ↓reduceIte, reduceCtorEq, Nat.reduceEqDiff, Nat.reduceAdd, Nat.reduceLT, Nat.reduceLeDiff, Nat.reduceSub, Int.reduceToNat, Int.reduceLE, Int.reduceLT, Int.reduceNeg, Int.reduceBEq, Int.reduceBNe, Nat.reduceMul, Int.reduceAdd, Int.reduceMul, Int.reduceSub, Int.reduceEq, Int.reduceNe]
theorem cRefCheapest (l : List BdWax) (w : BdWish) : PCall Try.prog 30 [bdWaxes l, w.pv] (bestPV (bdCheapest l w)) := by
  refine pcall_of_wp_frzN draws (fn := Try.f30) (n := 50) (rs := [.tmp 4, .tmp 5, .tmp 6]) (by kernel_rfl) rfl rfl rfl ok30 (Nat.le_of_ble_eq_true rfl) ?_
  simp (config := { maxSteps := 400000 }) only [go_sem, ↓reduceIte, reduceCtorEq, Nat.reduceEqDiff, Nat.reduceAdd, Nat.reduceLT, Nat.reduceLeDiff, Nat.reduceSub, Int.reduceToNat, Int.reduceLE, Int.reduceLT, Int.reduceNeg, Int.reduceBEq, Int.reduceBNe, Nat.reduceMul, Int.reduceAdd, Int.reduceMul, Int.reduceSub, Int.reduceEq, Int.reduceNe]
  (first | refine WF_pure (cRefWish l w) rfl ?_ | refine WDQ_pure (cRefWish l w) rfl ?_)
  simp (config := { maxSteps := 400000 }) only [go_sem, ↓reduceIte, reduceCtorEq, Nat.reduceEqDiff, Nat.reduceAdd, Nat.reduceLT, Nat.reduceLeDiff, Nat.reduceSub, Int.reduceToNat, Int.reduceLE, Int.reduceLT, Int.reduceNeg, Int.reduceBEq, Int.reduceBNe, Nat.reduceMul, Int.reduceAdd, Int.reduceMul, Int.reduceSub, Int.reduceEq, Int.reduceNe]
  refine WB_split (fun he => ?_) (fun he => ?_)
  · have he' : ¬ wishErr l w = 0 := by simpa using he
    simp (config := { maxSteps := 400000 }) only [bestPV, bdCheapest, if_neg he', go_sem, ↓reduceIte, reduceCtorEq, Nat.reduceEqDiff, Nat.reduceAdd, Nat.reduceLT, Nat.reduceLeDiff, Nat.reduceSub, Int.reduceToNat, Int.reduceLE, Int.reduceLT, Int.reduceNeg, Int.reduceBEq, Int.reduceBNe, Nat.reduceMul, Int.reduceAdd, Int.reduceMul, Int.reduceSub, Int.reduceEq, Int.reduceNe]
    first | exact .inl (.inl rfl) | exact .inl (.inr ⟨rfl, 1, rfl⟩) | exact .inr ⟨_, _, rfl, rfl, .inl rfl, .inl rfl, trivial⟩ | exact .inr ⟨_, _, rfl, rfl, .inr ⟨rfl, 1, rfl⟩, .inl rfl, trivial⟩ | exact ⟨1, rfl⟩ | (simp; done) | (refine .inr ⟨_, _, rfl, rfl, ?_⟩; repeat' (first | exact trivial | exact .inl rfl | exact .inr ⟨rfl, 1, rfl⟩ | refine ⟨?_, ?_⟩))
  have he' : wishErr l w = 0 := by simpa using he
  obtain ⟨hl, hw⟩ := wishOk_of he'
  have hl5 := hl.len
  have hspec : bdCheapest l w = match cheapGo (bdPrice l) none (fits l w) with | none => ([], 0, 9) | some b => (b, bdPrice l b, 0) := by rw [bdCheapest, if_pos he']
  rw [hspec]
  have hsm := fits_small w hl
  have hrec : ∀ r, r ∈ fits l w → RecOk l.length r := fun r hr => (fits_rec hl hr).1
  simp (config := { maxSteps := 400000 }) only [go_sem, ↓reduceIte, reduceCtorEq, Nat.reduceEqDiff, Nat.reduceAdd, Nat.reduceLT, Nat.reduceLeDiff, Nat.reduceSub, Int.reduceToNat, Int.reduceLE, Int.reduceLT, Int.reduceNeg, Int.reduceBEq, Int.reduceBNe, Nat.reduceMul, Int.reduceAdd, Int.reduceMul, Int.reduceSub, Int.reduceEq, Int.reduceNe]
  (first | refine WF_pure (cRefFitting l w hl hw) rfl ?_ | refine WDQ_pure (cRefFitting l w hl hw) rfl ?_)
  simp (config := { maxSteps := 400000 }) only [go_sem, ↓reduceIte, reduceCtorEq, Nat.reduceEqDiff, Nat.reduceAdd, Nat.reduceLT, Nat.reduceLeDiff, Nat.reduceSub, Int.reduceToNat, Int.reduceLE, Int.reduceLT, Int.reduceNeg, Int.reduceBEq, Int.reduceBNe, Nat.reduceMul, Int.reduceAdd, Int.reduceMul, Int.reduceSub, Int.reduceEq, Int.reduceNe]
  generalize fits l w = all at hsm hrec
  cases hall : all with
  | nil =>
    simp (config := { maxSteps := 400000 }) only [cheapGo, bestPV, go_sem, ↓reduceIte, reduceCtorEq, Nat.reduceEqDiff, Nat.reduceAdd, Nat.reduceLT, Nat.reduceLeDiff, Nat.reduceSub, Int.reduceToNat, Int.reduceLE, Int.reduceLT, Int.reduceNeg, Int.reduceBEq, Int.reduceBNe, Nat.reduceMul, Int.reduceAdd, Int.reduceMul, Int.reduceSub, Int.reduceEq, Int.reduceNe]
    first | exact .inl (.inl rfl) | exact .inl (.inr ⟨rfl, 1, rfl⟩) | exact .inr ⟨_, _, rfl, rfl, .inl rfl, .inl rfl, trivial⟩ | exact .inr ⟨_, _, rfl, rfl, .inr ⟨rfl, 1, rfl⟩, .inl rfl, trivial⟩ | exact ⟨1, rfl⟩ | (simp; done) | (refine .inr ⟨_, _, rfl, rfl, ?_⟩; repeat' (first | exact trivial | exact .inl rfl | exact .inr ⟨rfl, 1, rfl⟩ | refine ⟨?_, ?_⟩))
  | cons x t =>
    rw [← hall]
    have hn0 : (((all.length : Nat) : Int) == 0) = false := by rw [hall]; simp <;> omega
    have h0 : all[0]? = some x := by rw [hall]; rfl
    have h0' : (0 : Int) < (all.length : Int) := by rw [hall]; simp <;> omega
    simp (config := { maxSteps := 400000 }) only [hn0, h0, h0', go_sem, ↓reduceIte, reduceCtorEq, Nat.reduceEqDiff, Nat.reduceAdd, Nat.reduceLT, Nat.reduceLeDiff, Nat.reduceSub, Int.reduceToNat, Int.reduceLE, Int.reduceLT, Int.reduceNeg, Int.reduceBEq, Int.reduceBNe, Nat.reduceMul, Int.reduceAdd, Int.reduceMul, Int.reduceSub, Int.reduceEq, Int.reduceNe]
    refine W_loopH [0, 8] (σ := List (List Int) × List (List Int) × List Int) (fun q => all = q.1 ++ q.2.1 ∧ cheapGo (bdPrice l) none q.1 = some q.2.2 ∧ q.1 ≠ []) (fun q => q.2.1.length)
      (fun q => [(10, .p (.int .i64 q.1.length)), (9, .p (.slice 1 (q.2.2.map intPV) false))]) ([x], t, x) ⟨by rw [hall]; rfl, rfl, by simp⟩ ?_ ?_
    · simp (config := { maxSteps := 400000 }) only [go_sem, ↓reduceIte, reduceCtorEq, Nat.reduceEqDiff, Nat.reduceAdd, Nat.reduceLT, Nat.reduceLeDiff, Nat.reduceSub, Int.reduceToNat, Int.reduceLE, Int.reduceLT, Int.reduceNeg, Int.reduceBEq, Int.reduceBNe, Nat.reduceMul, Int.reduceAdd, Int.reduceMul, Int.reduceSub, Int.reduceEq, Int.reduceNe]
    rintro ⟨done, rest, b⟩ ⟨e1, e2, e3⟩
    dsimp only at e1 e2 e3
    have hb : RecOk l.length b := by
      rcases cheapGo_mem _ _ _ _ e2 with h | h
      · cases h
      · exact hrec b (by rw [e1]; simp [h])
    cases rest with
    | nil =>
      rw [List.append_nil] at e1
      have hlt : ¬ (((done.length : Nat) : Int) < (all.length : Int)) := by rw [e1]; omega
      simp (config := { maxSteps := 400000 }) only [hlt, go_sem, ↓reduceIte, reduceCtorEq, Nat.reduceEqDiff, Nat.reduceAdd, Nat.reduceLT, Nat.reduceLeDiff, Nat.reduceSub, Int.reduceToNat, Int.reduceLE, Int.reduceLT, Int.reduceNeg, Int.reduceBEq, Int.reduceBNe, Nat.reduceMul, Int.reduceAdd, Int.reduceMul, Int.reduceSub, Int.reduceEq, Int.reduceNe]
      (first | refine WF_pure (cRefPriceZ false false hl hb.len hb.rng) rfl ?_ | refine WDQ_pure (cRefPriceZ false false hl hb.len hb.rng) rfl ?_)
      rw [← e1] at e2
      simp (config := { maxSteps := 400000 }) only [e2, bestPV, bdPrice, go_sem, ↓reduceIte, reduceCtorEq, Nat.reduceEqDiff, Nat.reduceAdd, Nat.reduceLT, Nat.reduceLeDiff, Nat.reduceSub, Int.reduceToNat, Int.reduceLE, Int.reduceLT, Int.reduceNeg, Int.reduceBEq, Int.reduceBNe, Nat.reduceMul, Int.reduceAdd, Int.reduceMul, Int.reduceSub, Int.reduceEq, Int.reduceNe]
    | cons r rest =>
      obtain ⟨hx, hlt⟩ := list_at e1
      have hr := hrec r (by rw [e1]; simp)
      have hnx : IntKind.i64.wrap ((done.length : Int) + 1) = (((done ++ [r]).length : Nat) : Int) := wrap_add (by omega) (by simp [room]; omega) (by simp)
      simp (config := { maxSteps := 400000 }) only [hlt, hx, go_sem, ↓reduceIte, reduceCtorEq, Nat.reduceEqDiff, Nat.reduceAdd, Nat.reduceLT, Nat.reduceLeDiff, Nat.reduceSub, Int.reduceToNat, Int.reduceLE, Int.reduceLT, Int.reduceNeg, Int.reduceBEq, Int.reduceBNe, Nat.reduceMul, Int.reduceAdd, Int.reduceMul, Int.reduceSub, Int.reduceEq, Int.reduceNe]
      (first | refine WF_pure (cRefPriceZ false false hl hr.len hr.rng) rfl ?_ | refine WDQ_pure (cRefPriceZ false false hl hr.len hr.rng) rfl ?_)
      simp (config := { maxSteps := 400000 }) only [go_sem, ↓reduceIte, reduceCtorEq, Nat.reduceEqDiff, Nat.reduceAdd, Nat.reduceLT, Nat.reduceLeDiff, Nat.reduceSub, Int.reduceToNat, Int.reduceLE, Int.reduceLT, Int.reduceNeg, Int.reduceBEq, Int.reduceBNe, Nat.reduceMul, Int.reduceAdd, Int.reduceMul, Int.reduceSub, Int.reduceEq, Int.reduceNe]
      (first | refine WF_pure (cRefPriceZ false false hl hb.len hb.rng) rfl ?_ | refine WDQ_pure (cRefPriceZ false false hl hb.len hb.rng) rfl ?_)
      simp (config := { maxSteps := 400000 }) only [go_sem, ↓reduceIte, reduceCtorEq, Nat.reduceEqDiff, Nat.reduceAdd, Nat.reduceLT, Nat.reduceLeDiff, Nat.reduceSub, Int.reduceToNat, Int.reduceLE, Int.reduceLT, Int.reduceNeg, Int.reduceBEq, Int.reduceBNe, Nat.reduceMul, Int.reduceAdd, Int.reduceMul, Int.reduceSub, Int.reduceEq, Int.reduceNe]
      have hs := cheapGo_snoc (bdPrice l) done none r
      rw [e2, cheapGo] at hs
      cases hc : decide (sumP fPrice (l.zip r) < sumP fPrice (l.zip b))
      · have hc' : ¬ bdPrice l r < bdPrice l b := by simpa [bdPrice] using hc
        rw [if_neg hc', cheapGo] at hs
        simp (config := { maxSteps := 400000 }) only [go_sem, ↓reduceIte, reduceCtorEq, Nat.reduceEqDiff, Nat.reduceAdd, Nat.reduceLT, Nat.reduceLeDiff, Nat.reduceSub, Int.reduceToNat, Int.reduceLE, Int.reduceLT, Int.reduceNeg, Int.reduceBEq, Int.reduceBNe, Nat.reduceMul, Int.reduceAdd, Int.reduceMul, Int.reduceSub, Int.reduceEq, Int.reduceNe]
        refine WQ_headA (done ++ [r], rest, b) ⟨by simp [e1], hs, by simp⟩ (by simp) ?_
        simp (config := { maxSteps := 400000 }) only [hnx, go_sem, ↓reduceIte, reduceCtorEq, Nat.reduceEqDiff, Nat.reduceAdd, Nat.reduceLT, Nat.reduceLeDiff, Nat.reduceSub, Int.reduceToNat, Int.reduceLE, Int.reduceLT, Int.reduceNeg, Int.reduceBEq, Int.reduceBNe, Nat.reduceMul, Int.reduceAdd, Int.reduceMul, Int.reduceSub, Int.reduceEq, Int.reduceNe]
      · have hc' : bdPrice l r < bdPrice l b := by simpa [bdPrice] using hc
        rw [if_pos hc', cheapGo] at hs
        simp (config := { maxSteps := 400000 }) only [hlt, hx, go_sem, ↓reduceIte, reduceCtorEq, Nat.reduceEqDiff, Nat.reduceAdd, Nat.reduceLT, Nat.reduceLeDiff, Nat.reduceSub, Int.reduceToNat, Int.reduceLE, Int.reduceLT, Int.reduceNeg, Int.reduceBEq, Int.reduceBNe, Nat.reduceMul, Int.reduceAdd, Int.reduceMul, Int.reduceSub, Int.reduceEq, Int.reduceNe]
        refine WQ_headA (done ++ [r], rest, r) ⟨by simp [e1], hs, by simp⟩ (by simp) ?_
        simp (config := { maxSteps := 400000 }) only [hnx, go_sem, ↓reduceIte, reduceCtorEq, Nat.reduceEqDiff, Nat.reduceAdd, Nat.reduceLT, Nat.reduceLeDiff, Nat.reduceSub, Int.reduceToNat, Int.reduceLE, Int.reduceLT, Int.reduceNeg, Int.reduceBEq, Int.reduceBNe, Nat.reduceMul, Int.reduceAdd, Int.reduceMul, Int.reduceSub, Int.reduceEq, Int.reduceNe]

/-! for which prices -/
theorem cRefPriced (l : List BdWax) (wax price : Int) (x : BdWax) (hl : l.length ≤ 5) (h0 : 0 ≤ wax) (hx : l[wax.toNat]? = some x) :
    PCall Try.prog 45 [bdWaxes l, .int .i64 wax, .int .i64 price] (bdWaxes (l.set wax.toNat { x with price := price })) := by
  refine pcall_of_wp_frz draws (fn := Try.f45) (n := 17) (rs := [.tmp 6]) (by kernel_rfl) rfl rfl rfl ok45 (Nat.le_of_ble_eq_true rfl) ?_
  have hlt := (List.getElem?_eq_some_iff.1 hx).1
  have hlt' : wax < (l.length : Int) := by omega
  have hrm : l.length ≤ room := by simp [room]; omega
  have hne : ¬ (l.map fun y => AV.p y.pv) = [] := by
    intro h
    have := congrArg List.length h
    simp at this
    subst this
    simp at hlt
  have hne2 : ¬ (l.map BdWax.pv).map AV.p = [] := by simpa [List.map_map] using hne
  have hset : ((l.map BdWax.pv).map AV.p).set wax.toNat (.p { x with price := price }.pv) = ((l.set wax.toNat { x with price := price }).map BdWax.pv).map AV.p := by
    rw [List.map_set, List.map_set]
  simp only [BdWax.pv] at hset
  simp (config := { maxSteps := 400000 }) only [hrm, hne2, hlt', h0, hx, hset, List.length_set, go_sem, ↓reduceIte, reduceCtorEq, Nat.reduceEqDiff, Nat.reduceAdd, Nat.reduceLT, Nat.reduceLeDiff, Nat.reduceSub, Int.reduceToNat, Int.reduceLE, Int.reduceLT, Int.reduceNeg, Int.reduceBEq, Int.reduceBNe, Nat.reduceMul, Int.reduceAdd, Int.reduceMul, Int.reduceSub, Int.reduceEq, Int.reduceNe]
  rw [List.take_of_length_le (by simp)]

def waxAt (l : List BdWax) (k : Nat) : Int := match l[k]? with | some y => y.price | none => 0
def restP (l : List BdWax) (k : Nat) (x : List Int) : Int := bdPrice l x - x.getD k 0 * waxAt l k
def stayStep (s : Span) (y more : Int) : Option Span :=
  if 0 < y then some ⟨s.lo, if (-more) / y < s.hi then (-more) / y else s.hi⟩
  else if y < 0 then some ⟨if s.lo < -((-more) / (-y)) then -((-more) / (-y)) else s.lo, s.hi⟩
  else if 0 < more then none else some s
def stayGo (f g : List Int → Int) : Span → List (List Int) → Option Span
  | s, [] => some s
  | s, x :: t => match stayStep s (f x) (g x) with | none => none | some s' => stayGo f g s' t
def bdStays (l : List BdWax) (w : BdWish) (r : List Int) (wax : Int) : Span × Int :=
  if wishErr l w = 0 then
    if recErr l.length r = 0 then
      if gIn wax 0 ((l.length : Int) - 1) = true then
        if whyS l w r = 0 then
          match stayGo (fun x => r.getD wax.toNat 0 - x.getD wax.toNat 0) (fun x => restP l wax.toNat r - restP l wax.toNat x) ⟨0, 100000⟩ (fits l w) with
          | none => (⟨0, 0⟩, 9)
          | some s => if s.hi < s.lo then (⟨0, 0⟩, 9) else (s, 0)
        else (⟨0, 0⟩, 9)
      else (⟨0, 0⟩, 4)
    else (⟨0, 0⟩, recErr l.length r)
  else (⟨0, 0⟩, wishErr l w)
def staysPV (v : Span × Int) : PV := .tuple [v.1.pv, .int .i64 v.2]
theorem stayGo_snoc (f g : List Int → Int) : ∀ (t : List (List Int)) (s : Span) (x : List Int), stayGo f g s (t ++ [x]) = match stayGo f g s t with | none => none | some s' => stayStep s' (f x) (g x)
  | [], s, x => by
    simp only [List.nil_append, stayGo]
    cases stayStep s (f x) (g x) <;> rfl
  | y :: t, s, x => by
    rw [List.cons_append, stayGo, stayGo]
    cases hs : stayStep s (f y) (g y) with
    | none => rfl
    | some s' => exact stayGo_snoc f g t s' x
theorem stayGo_none (f g : List Int → Int) : ∀ (t u : List (List Int)) (s : Span), stayGo f g s t = none → stayGo f g s (t ++ u) = none
  | [], _, _, h => by cases h
  | y :: t, u, s, h => by
    rw [stayGo] at h
    rw [List.cons_append, stayGo]
    cases hs : stayStep s (f y) (g y) with
    | none => rfl
    | some s' => rw [hs] at h; exact stayGo_none f g t u s' h
theorem price_set : ∀ (l : List BdWax) (k : Nat) (c : Int) (y : BdWax) (x : List Int) (n : Int), l[k]? = some y → x[k]? = some n → bdPrice (l.set k { y with price := c }) x = bdPrice l x - n * y.price + n * c
  | [], k, c, y, x, n, h, _ => by simp at h
  | z :: l, k, c, y, [], n, _, h => by simp at h
  | z :: l, 0, c, y, m :: x, n, h1, h2 => by
    cases h1; cases h2
    simp only [bdPrice, List.set_cons_zero, List.zip_cons_cons, sumP, List.map_cons, List.sum_cons, fPrice]
    omega
  | z :: l, k + 1, c, y, m :: x, n, h1, h2 => by
    have ih := price_set l k c y x n (by simpa using h1) (by simpa using h2)
    simp only [bdPrice, List.set_cons_succ, List.zip_cons_cons, sumP, List.map_cons, List.sum_cons, fPrice] at ih ⊢
    omega
theorem priced_ok {l : List BdWax} (hl : BdWaxesOk l) {k : Nat} {y : BdWax} {c : Int} (hy : l[k]? = some y) (hc : 0 ≤ c ∧ c ≤ 100000) : BdWaxesOk (l.set k { y with price := c }) := by
  refine ⟨by simpa using hl.len, fun x hx => ?_⟩
  rcases List.mem_or_eq_of_mem_set hx with h | rfl
  · exact hl.wax x h
  · have := hl.wax y (List.mem_of_getElem? hy)
    exact ⟨hc, this.melt, this.shrink, this.curve⟩
theorem rest_at {l : List BdWax} {k : Nat} {x : List Int} {y : BdWax} {n : Int} (hl : BdWaxesOk l) (hx : RecOk l.length x) (hy : l[k]? = some y) (hn : x[k]? = some n) :
    restP l k x = bdPrice l x - n * y.price ∧ (0 ≤ n * y.price ∧ n * y.price ≤ 2000000) ∧ (0 ≤ n ∧ n ≤ 20) ∧ (0 ≤ bdPrice l x ∧ bdPrice l x ≤ 10000000) := by
  have h1 := hl.wax y (List.mem_of_getElem? hy)
  have h2 := hx.rng n (List.mem_of_getElem? hn)
  have h3 := sums_bd (psOk_zip hl hx.rng)
  refine ⟨?_, mul_bd (B := 100000) h2.1 h2.2 h1.price.1 h1.price.2, h2, h3.2.2.2.2.1⟩
  unfold restP waxAt
  rw [hy, List.getD_eq_getElem?_getD, hn]; rfl
theorem cStays1 (l : List BdWax) (x : List Int) (b : Bool) (wax : Int) (y : BdWax) (n : Int) (hl : BdWaxesOk l) (hx : RecOk l.length x) (h0 : 0 ≤ wax) (hy : l[wax.toNat]? = some y) (hn : x[wax.toNat]? = some n) :
    PCall Try.prog 77 [.slice 1 (x.map intPV) b, .ptr 1 [bdWaxes l] 0 0, .ptr 1 [.int .i64 wax] 0 0] (.int .i64 (restP l wax.toNat x)) := by
  refine pcall_of_wp draws (fn := Try.f77) (n := 20) (rs := [.tmp 4]) (by kernel_rfl) rfl rfl rfl ok77 (Nat.le_of_ble_eq_true rfl) ?_
  obtain ⟨e1, e2, e3, e4⟩ := rest_at hl hx hy hn
  have hlt := (List.getElem?_eq_some_iff.1 hy).1
  have hlt1 : wax < (l.length : Int) := by omega
  have hlt2 : wax < (x.length : Int) := by have := hx.len; omega
  have w1 : IntKind.i64.wrap (n * y.price) = n * y.price := wrap_in (by omega) (by omega)
  have w2 : IntKind.i64.wrap (bdPrice l x - n * y.price) = bdPrice l x - n * y.price := wrap_in (by omega) (by omega)
  simp (config := { maxSteps := 400000 }) only [go_sem, ↓reduceIte, reduceCtorEq, Nat.reduceEqDiff, Nat.reduceAdd, Nat.reduceLT, Nat.reduceLeDiff, Nat.reduceSub, Int.reduceToNat, Int.reduceLE, Int.reduceLT, Int.reduceNeg, Int.reduceBEq, Int.reduceBNe, Nat.reduceMul, Int.reduceAdd, Int.reduceMul, Int.reduceSub, Int.reduceEq, Int.reduceNe]
  (first | refine WF_pure (cBlendZ false b hl hx.len) rfl ?_ | refine WDQ_pure (cBlendZ false b hl hx.len) rfl ?_)
  simp (config := { maxSteps := 400000 }) only [go_sem, ↓reduceIte, reduceCtorEq, Nat.reduceEqDiff, Nat.reduceAdd, Nat.reduceLT, Nat.reduceLeDiff, Nat.reduceSub, Int.reduceToNat, Int.reduceLE, Int.reduceLT, Int.reduceNeg, Int.reduceBEq, Int.reduceBNe, Nat.reduceMul, Int.reduceAdd, Int.reduceMul, Int.reduceSub, Int.reduceEq, Int.reduceNe]
  (first | refine WF_pure (cWhole_price (l.zip x) false (psOk_zip hl hx.rng)) rfl ?_ | refine WDQ_pure (cWhole_price (l.zip x) false (psOk_zip hl hx.rng)) rfl ?_)
  have hp : sumP fPrice (l.zip x) = bdPrice l x := rfl
  simp (config := { maxSteps := 400000 }) only [hp, h0, hlt1, hlt2, hy, hn, w1, w2, e1, go_sem, ↓reduceIte, reduceCtorEq, Nat.reduceEqDiff, Nat.reduceAdd, Nat.reduceLT, Nat.reduceLeDiff, Nat.reduceSub, Int.reduceToNat, Int.reduceLE, Int.reduceLT, Int.reduceNeg, Int.reduceBEq, Int.reduceBNe, Nat.reduceMul, Int.reduceAdd, Int.reduceMul, Int.reduceSub, Int.reduceEq, Int.reduceNe]
set_option maxHeartbeats 2000000 in
theorem cStays (l : List BdWax) (w : BdWish) (r : List Int) (b : Bool) (wax : Int) : PCall Try.prog 31 [bdWaxes l, w.pv, .slice 1 (r.map intPV) b, .int .i64 wax] (staysPV (bdStays l w r wax)) := by
  refine pcall_of_wp draws (fn := Try.f31) (n := 101) (rs := [.cell 8 36, .tmp 9]) (by kernel_rfl) rfl rfl rfl ok31 (Nat.le_of_ble_eq_true rfl) ?_
  simp (config := { maxSteps := 400000 }) only [go_sem, ↓reduceIte, reduceCtorEq, Nat.reduceEqDiff, Nat.reduceAdd, Nat.reduceLT, Nat.reduceLeDiff, Nat.reduceSub, Int.reduceToNat, Int.reduceLE, Int.reduceLT, Int.reduceNeg, Int.reduceBEq, Int.reduceBNe, Nat.reduceMul, Int.reduceAdd, Int.reduceMul, Int.reduceSub, Int.reduceEq, Int.reduceNe]
  (first | refine WF_pure (cOdd l w) rfl ?_ | refine WDQ_pure (cOdd l w) rfl ?_)
  simp (config := { maxSteps := 400000 }) only [go_sem, ↓reduceIte, reduceCtorEq, Nat.reduceEqDiff, Nat.reduceAdd, Nat.reduceLT, Nat.reduceLeDiff, Nat.reduceSub, Int.reduceToNat, Int.reduceLE, Int.reduceLT, Int.reduceNeg, Int.reduceBEq, Int.reduceBNe, Nat.reduceMul, Int.reduceAdd, Int.reduceMul, Int.reduceSub, Int.reduceEq, Int.reduceNe]
  refine WB_split (fun he => ?_) (fun he => ?_)
  · have he' : ¬ wishErr l w = 0 := by simpa using he
    simp (config := { maxSteps := 400000 }) only [staysPV, bdStays, if_neg he', go_sem, ↓reduceIte, reduceCtorEq, Nat.reduceEqDiff, Nat.reduceAdd, Nat.reduceLT, Nat.reduceLeDiff, Nat.reduceSub, Int.reduceToNat, Int.reduceLE, Int.reduceLT, Int.reduceNeg, Int.reduceBEq, Int.reduceBNe, Nat.reduceMul, Int.reduceAdd, Int.reduceMul, Int.reduceSub, Int.reduceEq, Int.reduceNe]
  have he' : wishErr l w = 0 := by simpa using he
  obtain ⟨hl, hw⟩ := wishOk_of he'
  simp (config := { maxSteps := 400000 }) only [go_sem, ↓reduceIte, reduceCtorEq, Nat.reduceEqDiff, Nat.reduceAdd, Nat.reduceLT, Nat.reduceLeDiff, Nat.reduceSub, Int.reduceToNat, Int.reduceLE, Int.reduceLT, Int.reduceNeg, Int.reduceBEq, Int.reduceBNe, Nat.reduceMul, Int.reduceAdd, Int.reduceMul, Int.reduceSub, Int.reduceEq, Int.reduceNe]
  (first | refine WF_pure (cStrange l r b hl.len.2) rfl ?_ | refine WDQ_pure (cStrange l r b hl.len.2) rfl ?_)
  simp (config := { maxSteps := 400000 }) only [go_sem, ↓reduceIte, reduceCtorEq, Nat.reduceEqDiff, Nat.reduceAdd, Nat.reduceLT, Nat.reduceLeDiff, Nat.reduceSub, Int.reduceToNat, Int.reduceLE, Int.reduceLT, Int.reduceNeg, Int.reduceBEq, Int.reduceBNe, Nat.reduceMul, Int.reduceAdd, Int.reduceMul, Int.reduceSub, Int.reduceEq, Int.reduceNe]
  refine WB_split (fun hr => ?_) (fun hr => ?_)
  · have hr' : ¬ recErr l.length r = 0 := by simpa using hr
    simp (config := { maxSteps := 400000 }) only [staysPV, bdStays, if_pos he', if_neg hr', go_sem, ↓reduceIte, reduceCtorEq, Nat.reduceEqDiff, Nat.reduceAdd, Nat.reduceLT, Nat.reduceLeDiff, Nat.reduceSub, Int.reduceToNat, Int.reduceLE, Int.reduceLT, Int.reduceNeg, Int.reduceBEq, Int.reduceBNe, Nat.reduceMul, Int.reduceAdd, Int.reduceMul, Int.reduceSub, Int.reduceEq, Int.reduceNe]
  have hr' : recErr l.length r = 0 := by simpa using hr
  have hro := recOk_of hr'
  simp (config := { maxSteps := 400000 }) only [len_dec hl, go_sem, ↓reduceIte, reduceCtorEq, Nat.reduceEqDiff, Nat.reduceAdd, Nat.reduceLT, Nat.reduceLeDiff, Nat.reduceSub, Int.reduceToNat, Int.reduceLE, Int.reduceLT, Int.reduceNeg, Int.reduceBEq, Int.reduceBNe, Nat.reduceMul, Int.reduceAdd, Int.reduceMul, Int.reduceSub, Int.reduceEq, Int.reduceNe]
  (first | refine WF_pure (cBdOut 0 _ [_] true (by simp)) rfl ?_ | refine WDQ_pure (cBdOut 0 _ [_] true (by simp)) rfl ?_)
  simp (config := { maxSteps := 400000 }) only [List.any_cons, List.any_nil, Bool.or_false, go_sem, ↓reduceIte, reduceCtorEq, Nat.reduceEqDiff, Nat.reduceAdd, Nat.reduceLT, Nat.reduceLeDiff, Nat.reduceSub, Int.reduceToNat, Int.reduceLE, Int.reduceLT, Int.reduceNeg, Int.reduceBEq, Int.reduceBNe, Nat.reduceMul, Int.reduceAdd, Int.reduceMul, Int.reduceSub, Int.reduceEq, Int.reduceNe]
  cases hg : gIn wax 0 ((l.length : Int) - 1)
  · simp (config := { maxSteps := 400000 }) only [staysPV, bdStays, if_pos he', if_pos hr', hg, go_sem, ↓reduceIte, reduceCtorEq, Nat.reduceEqDiff, Nat.reduceAdd, Nat.reduceLT, Nat.reduceLeDiff, Nat.reduceSub, Int.reduceToNat, Int.reduceLE, Int.reduceLT, Int.reduceNeg, Int.reduceBEq, Int.reduceBNe, Nat.reduceMul, Int.reduceAdd, Int.reduceMul, Int.reduceSub, Int.reduceEq, Int.reduceNe]
  simp (config := { maxSteps := 400000 }) only [go_sem, ↓reduceIte, reduceCtorEq, Nat.reduceEqDiff, Nat.reduceAdd, Nat.reduceLT, Nat.reduceLeDiff, Nat.reduceSub, Int.reduceToNat, Int.reduceLE, Int.reduceLT, Int.reduceNeg, Int.reduceBEq, Int.reduceBNe, Nat.reduceMul, Int.reduceAdd, Int.reduceMul, Int.reduceSub, Int.reduceEq, Int.reduceNe]
  (first | refine WF_pure (cWhy0 b hl hw hro.len hro.rng) rfl ?_ | refine WDQ_pure (cWhy0 b hl hw hro.len hro.rng) rfl ?_)
  simp (config := { maxSteps := 400000 }) only [go_sem, ↓reduceIte, reduceCtorEq, Nat.reduceEqDiff, Nat.reduceAdd, Nat.reduceLT, Nat.reduceLeDiff, Nat.reduceSub, Int.reduceToNat, Int.reduceLE, Int.reduceLT, Int.reduceNeg, Int.reduceBEq, Int.reduceBNe, Nat.reduceMul, Int.reduceAdd, Int.reduceMul, Int.reduceSub, Int.reduceEq, Int.reduceNe]
  refine WB_split (fun hy => ?_) (fun hy => ?_)
  · have hy' : ¬ whyS l w r = 0 := by simpa using hy
    simp (config := { maxSteps := 400000 }) only [staysPV, bdStays, if_pos he', if_pos hr', hg, if_neg hy', go_sem, ↓reduceIte, reduceCtorEq, Nat.reduceEqDiff, Nat.reduceAdd, Nat.reduceLT, Nat.reduceLeDiff, Nat.reduceSub, Int.reduceToNat, Int.reduceLE, Int.reduceLT, Int.reduceNeg, Int.reduceBEq, Int.reduceBNe, Nat.reduceMul, Int.reduceAdd, Int.reduceMul, Int.reduceSub, Int.reduceEq, Int.reduceNe]
  have hy' : whyS l w r = 0 := by simpa using hy
  simp (config := { maxSteps := 400000 }) only [go_sem, ↓reduceIte, reduceCtorEq, Nat.reduceEqDiff, Nat.reduceAdd, Nat.reduceLT, Nat.reduceLeDiff, Nat.reduceSub, Int.reduceToNat, Int.reduceLE, Int.reduceLT, Int.reduceNeg, Int.reduceBEq, Int.reduceBNe, Nat.reduceMul, Int.reduceAdd, Int.reduceMul, Int.reduceSub, Int.reduceEq, Int.reduceNe]
  (first | refine WF_pure (cFitting l w) rfl ?_ | refine WDQ_pure (cFitting l w) rfl ?_)
  simp (config := { maxSteps := 400000 }) only [fitPV, go_sem, ↓reduceIte, reduceCtorEq, Nat.reduceEqDiff, Nat.reduceAdd, Nat.reduceLT, Nat.reduceLeDiff, Nat.reduceSub, Int.reduceToNat, Int.reduceLE, Int.reduceLT, Int.reduceNeg, Int.reduceBEq, Int.reduceBNe, Nat.reduceMul, Int.reduceAdd, Int.reduceMul, Int.reduceSub, Int.reduceEq, Int.reduceNe]
  have hspec : bdStays l w r wax = match stayGo (fun x => r.getD wax.toNat 0 - x.getD wax.toNat 0) (fun x => restP l wax.toNat r - restP l wax.toNat x) ⟨0, 100000⟩ (fits l w) with
          | none => (⟨0, 0⟩, 9)
          | some s => if s.hi < s.lo then (⟨0, 0⟩, 9) else (s, 0) := by rw [bdStays, if_pos he', if_pos hr', if_pos hg, if_pos hy']
  rw [hspec]
  have hwx : 0 ≤ wax ∧ wax < (l.length : Int) := by simp [gIn] at hg; omega
  obtain ⟨y, hyl⟩ : ∃ y, l[wax.toNat]? = some y := ⟨_, List.getElem?_eq_getElem (by omega)⟩
  obtain ⟨n, hn⟩ : ∃ n, r[wax.toNat]? = some n := ⟨_, List.getElem?_eq_getElem (by have := hro.len; omega)⟩
  have hrlt : wax < (r.length : Int) := by have := hro.len; omega
  have hrr := rest_at hl hro hyl hn
  have hrn : r.getD wax.toNat 0 = n := by rw [List.getD_eq_getElem?_getD, hn]; rfl
  rw [hrn]
  obtain ⟨F, hF⟩ : ∃ F : List Int → Int, F = fun x => n - x.getD wax.toNat 0 := ⟨_, rfl⟩
  obtain ⟨G, hG⟩ : ∃ G : List Int → Int, G = fun x => restP l wax.toNat r - restP l wax.toNat x := ⟨_, rfl⟩
  rw [← hF, ← hG]
  refine W_iterM (l := (fits l w).map fun r => r.map intPV) (fun o k h => ∃ s, stayGo F G ⟨0, 100000⟩ ((fits l w).take k) = some s ∧ 0 ≤ s.lo ∧ h = [.row 1 [.p (bdWaxes l)], .row 5 [.p w.pv], .row 1 [.p (.slice 1 (r.map intPV) b)], .row 1 [.p (.int .i64 wax)], .row 2 [.p s.pv],
        .row 1 [.func (.func 77) [] [.ptr 0 1 0 0, .ptr 3 1 0 0]], .dblock, o])
    (fun c h => c = .exit 1 ∧ stayGo F G ⟨0, 100000⟩ (fits l w) = none ∧ ∃ lo o, 0 ≤ lo ∧ h = [.row 1 [.p (bdWaxes l)], .row 5 [.p w.pv], .row 1 [.p (.slice 1 (r.map intPV) b)], .row 1 [.p (.int .i64 wax)], .row 2 [.p (Span.mk lo (-1)).pv],
        .row 1 [.func (.func 77) [] [.ptr 0 1 0 0, .ptr 3 1 0 0]], .dblock, o])
    rfl (by simp (config := { maxSteps := 400000 }) only [fitPV, go_sem, ↓reduceIte, reduceCtorEq, Nat.reduceEqDiff, Nat.reduceAdd, Nat.reduceLT, Nat.reduceLeDiff, Nat.reduceSub, Int.reduceToNat, Int.reduceLE, Int.reduceLT, Int.reduceNeg, Int.reduceBEq, Int.reduceBNe, Nat.reduceMul, Int.reduceAdd, Int.reduceMul, Int.reduceSub, Int.reduceEq, Int.reduceNe]) (iFitting hl hw) draws (by kernel_rfl) rfl (by kernel_rfl) (by kernel_rfl) ?_ ?_ ?_ ?_ ?_
  · rintro o k h ⟨s, _, _, rfl⟩; simp
  · intro o
    refine ⟨⟨0, 100000⟩, rfl, by decide, ?_⟩
    simp (config := { maxSteps := 400000 }) only [go_sem, ↓reduceIte, reduceCtorEq, Nat.reduceEqDiff, Nat.reduceAdd, Nat.reduceLT, Nat.reduceLeDiff, Nat.reduceSub, Int.reduceToNat, Int.reduceLE, Int.reduceLT, Int.reduceNeg, Int.reduceBEq, Int.reduceBNe, Nat.reduceMul, Int.reduceAdd, Int.reduceMul, Int.reduceSub, Int.reduceEq, Int.reduceNe]
  · rintro oR oB oD k xs lo mid j hk ⟨s, hs, hs0, rfl⟩ _ hj
    rw [List.getElem?_map, Option.map_eq_some_iff] at hk
    obtain ⟨x, hk, rfl⟩ := hk
    have hxo := (fits_rec hl (List.mem_of_getElem? hk)).1
    obtain ⟨m, hm⟩ : ∃ m, x[wax.toNat]? = some m := ⟨_, List.getElem?_eq_getElem (by have := hxo.len; omega)⟩
    have hxx := rest_at hl hxo hyl hm
    have hxlt : wax < (x.length : Int) := by have := hxo.len; omega
    have hFx : F x = n - m := by rw [hF]; dsimp only; rw [List.getD_eq_getElem?_getD, hm]; rfl
    have hGx : G x = restP l wax.toNat r - restP l wax.toNat x := by rw [hG]
    have hsn := stayGo_snoc F G ((fits l w).take k) ⟨0, 100000⟩ x
    rw [← take_snoc hk, hs] at hsn
    dsimp only at hsn
    have w1 : IntKind.i64.wrap (n - m) = F x := by rw [hFx]; exact wrap_in (by omega) (by omega)
    have w2 : IntKind.i64.wrap (restP l wax.toNat r - restP l wax.toNat x) = G x := by rw [hGx]; exact wrap_in (by omega) (by omega)
    have hFb : -20 ≤ F x ∧ F x ≤ 20 := by omega
    have hGb : -100000000 ≤ G x ∧ G x ≤ 100000000 := by omega
    have hjx : mid[j]? = some (.row 1 (x.map fun n => .p (intPV n))) := by simpa [Function.comp_def] using hj
    simp only [intPV] at hjx
    have htk : (x.map intPV).take x.length = x.map intPV := List.take_of_length_le (by simp)
    simp (config := { maxSteps := 400000 }) only [hrlt, hwx.1, hn, hj, hjx, hxlt, hm, go_sem, ↓reduceIte, reduceCtorEq, Nat.reduceEqDiff, Nat.reduceAdd, Nat.reduceLT, Nat.reduceLeDiff, Nat.reduceSub, Int.reduceToNat, Int.reduceLE, Int.reduceLT, Int.reduceNeg, Int.reduceBEq, Int.reduceBNe, Nat.reduceMul, Int.reduceAdd, Int.reduceMul, Int.reduceSub, Int.reduceEq, Int.reduceNe]
    refine WDQ_frz (cStays1 l r b wax y n hl hro hwx.1 hyl hn) ?_ (.int _ _) ?_
    · simp (config := { maxSteps := 400000 }) only [go_sem, ↓reduceIte, reduceCtorEq, Nat.reduceEqDiff, Nat.reduceAdd, Nat.reduceLT, Nat.reduceLeDiff, Nat.reduceSub, Int.reduceToNat, Int.reduceLE, Int.reduceLT, Int.reduceNeg, Int.reduceBEq, Int.reduceBNe, Nat.reduceMul, Int.reduceAdd, Int.reduceMul, Int.reduceSub, Int.reduceEq, Int.reduceNe]
    simp (config := { maxSteps := 400000 }) only [go_sem, ↓reduceIte, reduceCtorEq, Nat.reduceEqDiff, Nat.reduceAdd, Nat.reduceLT, Nat.reduceLeDiff, Nat.reduceSub, Int.reduceToNat, Int.reduceLE, Int.reduceLT, Int.reduceNeg, Int.reduceBEq, Int.reduceBNe, Nat.reduceMul, Int.reduceAdd, Int.reduceMul, Int.reduceSub, Int.reduceEq, Int.reduceNe]
    refine WDQ_frz (cStays1 l x false wax y m hl hxo hwx.1 hyl hm) ?_ (.int _ _) ?_
    · simp (config := { maxSteps := 400000 }) only [hj, htk, go_sem, ↓reduceIte, reduceCtorEq, Nat.reduceEqDiff, Nat.reduceAdd, Nat.reduceLT, Nat.reduceLeDiff, Nat.reduceSub, Int.reduceToNat, Int.reduceLE, Int.reduceLT, Int.reduceNeg, Int.reduceBEq, Int.reduceBNe, Nat.reduceMul, Int.reduceAdd, Int.reduceMul, Int.reduceSub, Int.reduceEq, Int.reduceNe]
    simp (config := { maxSteps := 400000 }) only [w1, w2, go_sem, ↓reduceIte, reduceCtorEq, Nat.reduceEqDiff, Nat.reduceAdd, Nat.reduceLT, Nat.reduceLeDiff, Nat.reduceSub, Int.reduceToNat, Int.reduceLE, Int.reduceLT, Int.reduceNeg, Int.reduceBEq, Int.reduceBNe, Nat.reduceMul, Int.reduceAdd, Int.reduceMul, Int.reduceSub, Int.reduceEq, Int.reduceNe]
    cases h1 : decide (0 < F x)
    rotate_left
    · have h1' : 0 < F x := by simpa using h1
      have wn : IntKind.i64.wrap (-G x) = -G x := wrap_in (by omega) (by omega)
      simp (config := { maxSteps := 400000 }) only [wn, go_sem, ↓reduceIte, reduceCtorEq, Nat.reduceEqDiff, Nat.reduceAdd, Nat.reduceLT, Nat.reduceLeDiff, Nat.reduceSub, Int.reduceToNat, Int.reduceLE, Int.reduceLT, Int.reduceNeg, Int.reduceBEq, Int.reduceBNe, Nat.reduceMul, Int.reduceAdd, Int.reduceMul, Int.reduceSub, Int.reduceEq, Int.reduceNe]
      (first | refine WF_pure (cDown0 _ _ (by omega) h1') rfl ?_ | refine WDQ_pure (cDown0 _ _ (by omega) h1') rfl ?_)
      simp (config := { maxSteps := 400000 }) only [go_sem, ↓reduceIte, reduceCtorEq, Nat.reduceEqDiff, Nat.reduceAdd, Nat.reduceLT, Nat.reduceLeDiff, Nat.reduceSub, Int.reduceToNat, Int.reduceLE, Int.reduceLT, Int.reduceNeg, Int.reduceBEq, Int.reduceBNe, Nat.reduceMul, Int.reduceAdd, Int.reduceMul, Int.reduceSub, Int.reduceEq, Int.reduceNe]
      refine ⟨_, [], ?_, rfl, .inl ⟨⟨s.lo, if (-G x) / F x < s.hi then (-G x) / F x else s.hi⟩, by rw [hsn, stayStep, if_pos h1'], hs0, rfl⟩⟩
      simp (config := { maxSteps := 400000 }) only [List.append_nil, go_sem, ↓reduceIte, reduceCtorEq, Nat.reduceEqDiff, Nat.reduceAdd, Nat.reduceLT, Nat.reduceLeDiff, Nat.reduceSub, Int.reduceToNat, Int.reduceLE, Int.reduceLT, Int.reduceNeg, Int.reduceBEq, Int.reduceBNe, Nat.reduceMul, Int.reduceAdd, Int.reduceMul, Int.reduceSub, Int.reduceEq, Int.reduceNe]
    have h1' : ¬ 0 < F x := by simpa using h1
    simp (config := { maxSteps := 400000 }) only [go_sem, ↓reduceIte, reduceCtorEq, Nat.reduceEqDiff, Nat.reduceAdd, Nat.reduceLT, Nat.reduceLeDiff, Nat.reduceSub, Int.reduceToNat, Int.reduceLE, Int.reduceLT, Int.reduceNeg, Int.reduceBEq, Int.reduceBNe, Nat.reduceMul, Int.reduceAdd, Int.reduceMul, Int.reduceSub, Int.reduceEq, Int.reduceNe]
    cases h2 : decide (F x < 0)
    rotate_left
    · have h2' : F x < 0 := by simpa using h2
      have wn : IntKind.i64.wrap (-G x) = -G x := wrap_in (by omega) (by omega)
      have wf : IntKind.i64.wrap (-F x) = -F x := wrap_in (by omega) (by omega)
      have hq : -100000000 ≤ (-G x) / (-F x) ∧ (-G x) / (-F x) ≤ 100000000 := by
        have hp : 0 < -F x := by omega
        constructor
        · rw [Int.le_ediv_iff_mul_le hp]
          have : (-100000000) * (-F x) ≤ (-100000000) * 1 := Int.mul_le_mul_of_nonpos_left (by omega) (by omega)
          omega
        · have := Int.ediv_le_ediv hp (show -G x ≤ 100000000 * (-F x) by have : 100000000 * 1 ≤ 100000000 * (-F x) := Int.mul_le_mul_of_nonneg_left (by omega) (by omega); omega)
          rwa [Int.mul_ediv_cancel _ (by omega)] at this
      have wd : IntKind.i64.wrap (-((-G x) / (-F x))) = -((-G x) / (-F x)) := wrap_in (by omega) (by omega)
      simp (config := { maxSteps := 400000 }) only [wn, wf, go_sem, ↓reduceIte, reduceCtorEq, Nat.reduceEqDiff, Nat.reduceAdd, Nat.reduceLT, Nat.reduceLeDiff, Nat.reduceSub, Int.reduceToNat, Int.reduceLE, Int.reduceLT, Int.reduceNeg, Int.reduceBEq, Int.reduceBNe, Nat.reduceMul, Int.reduceAdd, Int.reduceMul, Int.reduceSub, Int.reduceEq, Int.reduceNe]
      (first | refine WF_pure (cDown0 _ _ (by omega) (by omega)) rfl ?_ | refine WDQ_pure (cDown0 _ _ (by omega) (by omega)) rfl ?_)
      simp (config := { maxSteps := 400000 }) only [wd, go_sem, ↓reduceIte, reduceCtorEq, Nat.reduceEqDiff, Nat.reduceAdd, Nat.reduceLT, Nat.reduceLeDiff, Nat.reduceSub, Int.reduceToNat, Int.reduceLE, Int.reduceLT, Int.reduceNeg, Int.reduceBEq, Int.reduceBNe, Nat.reduceMul, Int.reduceAdd, Int.reduceMul, Int.reduceSub, Int.reduceEq, Int.reduceNe]
      refine ⟨_, [], ?_, rfl, .inl ⟨⟨if s.lo < -((-G x) / (-F x)) then -((-G x) / (-F x)) else s.lo, s.hi⟩, by rw [hsn, stayStep, if_neg h1', if_pos h2'], by dsimp only; split <;> omega, rfl⟩⟩
      simp (config := { maxSteps := 400000 }) only [List.append_nil, go_sem, ↓reduceIte, reduceCtorEq, Nat.reduceEqDiff, Nat.reduceAdd, Nat.reduceLT, Nat.reduceLeDiff, Nat.reduceSub, Int.reduceToNat, Int.reduceLE, Int.reduceLT, Int.reduceNeg, Int.reduceBEq, Int.reduceBNe, Nat.reduceMul, Int.reduceAdd, Int.reduceMul, Int.reduceSub, Int.reduceEq, Int.reduceNe]
    have h2' : ¬ F x < 0 := by simpa using h2
    simp (config := { maxSteps := 400000 }) only [go_sem, ↓reduceIte, reduceCtorEq, Nat.reduceEqDiff, Nat.reduceAdd, Nat.reduceLT, Nat.reduceLeDiff, Nat.reduceSub, Int.reduceToNat, Int.reduceLE, Int.reduceLT, Int.reduceNeg, Int.reduceBEq, Int.reduceBNe, Nat.reduceMul, Int.reduceAdd, Int.reduceMul, Int.reduceSub, Int.reduceEq, Int.reduceNe]
    cases h3 : decide (0 < G x)
    · have h3' : ¬ 0 < G x := by simpa using h3
      simp (config := { maxSteps := 400000 }) only [go_sem, ↓reduceIte, reduceCtorEq, Nat.reduceEqDiff, Nat.reduceAdd, Nat.reduceLT, Nat.reduceLeDiff, Nat.reduceSub, Int.reduceToNat, Int.reduceLE, Int.reduceLT, Int.reduceNeg, Int.reduceBEq, Int.reduceBNe, Nat.reduceMul, Int.reduceAdd, Int.reduceMul, Int.reduceSub, Int.reduceEq, Int.reduceNe]
      refine ⟨_, [], ?_, rfl, .inl ⟨s, by rw [hsn, stayStep, if_neg h1', if_neg h2', if_neg h3'], hs0, rfl⟩⟩
      simp (config := { maxSteps := 400000 }) only [List.append_nil, go_sem, ↓reduceIte, reduceCtorEq, Nat.reduceEqDiff, Nat.reduceAdd, Nat.reduceLT, Nat.reduceLeDiff, Nat.reduceSub, Int.reduceToNat, Int.reduceLE, Int.reduceLT, Int.reduceNeg, Int.reduceBEq, Int.reduceBNe, Nat.reduceMul, Int.reduceAdd, Int.reduceMul, Int.reduceSub, Int.reduceEq, Int.reduceNe]
    · have h3' : 0 < G x := by simpa using h3
      rw [stayStep, if_neg h1', if_neg h2', if_pos h3'] at hsn
      have hall : stayGo F G ⟨0, 100000⟩ (fits l w) = none := by
        have := stayGo_none F G _ ((fits l w).drop (k + 1)) _ hsn
        rwa [List.take_append_drop] at this
      simp (config := { maxSteps := 400000 }) only [go_sem, ↓reduceIte, reduceCtorEq, Nat.reduceEqDiff, Nat.reduceAdd, Nat.reduceLT, Nat.reduceLeDiff, Nat.reduceSub, Int.reduceToNat, Int.reduceLE, Int.reduceLT, Int.reduceNeg, Int.reduceBEq, Int.reduceBNe, Nat.reduceMul, Int.reduceAdd, Int.reduceMul, Int.reduceSub, Int.reduceEq, Int.reduceNe]
      refine ⟨_, [], ?_, rfl, .inr ⟨_, ⟨rfl, hall, s.lo, _, hs0, rfl⟩, rfl⟩⟩
      simp (config := { maxSteps := 400000 }) only [List.append_nil, go_sem, ↓reduceIte, reduceCtorEq, Nat.reduceEqDiff, Nat.reduceAdd, Nat.reduceLT, Nat.reduceLeDiff, Nat.reduceSub, Int.reduceToNat, Int.reduceLE, Int.reduceLT, Int.reduceNeg, Int.reduceBEq, Int.reduceBNe, Nat.reduceMul, Int.reduceAdd, Int.reduceMul, Int.reduceSub, Int.reduceEq, Int.reduceNe]
  · rintro o lo mid ⟨s, hs, hs0, rfl⟩ _
    have hlen : (fits l w).take (((fits l w).map fun r => r.map intPV).length) = fits l w := by simp
    rw [hlen] at hs
    rw [hs]
    simp (config := { maxSteps := 400000 }) only [go_sem, ↓reduceIte, reduceCtorEq, Nat.reduceEqDiff, Nat.reduceAdd, Nat.reduceLT, Nat.reduceLeDiff, Nat.reduceSub, Int.reduceToNat, Int.reduceLE, Int.reduceLT, Int.reduceNeg, Int.reduceBEq, Int.reduceBNe, Nat.reduceMul, Int.reduceAdd, Int.reduceMul, Int.reduceSub, Int.reduceEq, Int.reduceNe]
    refine WB_split (fun hb => ?_) (fun hb => ?_)
    · have hb' : s.hi < s.lo := by simpa using hb
      simp (config := { maxSteps := 400000 }) only [leave_collected, staysPV, if_pos hb', go_sem, ↓reduceIte, reduceCtorEq, Nat.reduceEqDiff, Nat.reduceAdd, Nat.reduceLT, Nat.reduceLeDiff, Nat.reduceSub, Int.reduceToNat, Int.reduceLE, Int.reduceLT, Int.reduceNeg, Int.reduceBEq, Int.reduceBNe, Nat.reduceMul, Int.reduceAdd, Int.reduceMul, Int.reduceSub, Int.reduceEq, Int.reduceNe]
    · have hb' : ¬ s.hi < s.lo := by simpa using hb
      simp (config := { maxSteps := 400000 }) only [leave_collected, staysPV, if_neg hb', go_sem, ↓reduceIte, reduceCtorEq, Nat.reduceEqDiff, Nat.reduceAdd, Nat.reduceLT, Nat.reduceLeDiff, Nat.reduceSub, Int.reduceToNat, Int.reduceLE, Int.reduceLT, Int.reduceNeg, Int.reduceBEq, Int.reduceBNe, Nat.reduceMul, Int.reduceAdd, Int.reduceMul, Int.reduceSub, Int.reduceEq, Int.reduceNe]
  · rintro c lo mid ⟨rfl, hnone, lo0, o, hlo0, rfl⟩ _
    rw [hnone]
    have hgt : decide ((-1 : Int) < lo0) = true := by simp; omega
    simp (config := { maxSteps := 400000 }) only [hgt, leave_collected, staysPV, go_sem, ↓reduceIte, reduceCtorEq, Nat.reduceEqDiff, Nat.reduceAdd, Nat.reduceLT, Nat.reduceLeDiff, Nat.reduceSub, Int.reduceToNat, Int.reduceLE, Int.reduceLT, Int.reduceNeg, Int.reduceBEq, Int.reduceBNe, Nat.reduceMul, Int.reduceAdd, Int.reduceMul, Int.reduceSub, Int.reduceEq, Int.reduceNe]
set_option maxHeartbeats 2000000 in
theorem cRefStays (l : List BdWax) (w : BdWish) (r : List Int) (b : Bool) (wax : Int) : PCall Try.prog 32 [bdWaxes l, w.pv, .slice 1 (r.map intPV) b, .int .i64 wax] (staysPV (bdStays l w r wax)) := by
  refine pcall_of_wp draws (fn := Try.f32) (n := 120) (rs := [.cell 8 36, .tmp 9]) (by kernel_rfl) rfl rfl rfl ok32 (Nat.le_of_ble_eq_true rfl) ?_
  simp (config := { maxSteps := 400000 }) only [go_sem, ↓reduceIte, reduceCtorEq, Nat.reduceEqDiff, Nat.reduceAdd, Nat.reduceLT, Nat.reduceLeDiff, Nat.reduceSub, Int.reduceToNat, Int.reduceLE, Int.reduceLT, Int.reduceNeg, Int.reduceBEq, Int.reduceBNe, Nat.reduceMul, Int.reduceAdd, Int.reduceMul, Int.reduceSub, Int.reduceEq, Int.reduceNe]
  (first | refine WF_pure (cRefWish l w) rfl ?_ | refine WDQ_pure (cRefWish l w) rfl ?_)
  simp (config := { maxSteps := 400000 }) only [go_sem, ↓reduceIte, reduceCtorEq, Nat.reduceEqDiff, Nat.reduceAdd, Nat.reduceLT, Nat.reduceLeDiff, Nat.reduceSub, Int.reduceToNat, Int.reduceLE, Int.reduceLT, Int.reduceNeg, Int.reduceBEq, Int.reduceBNe, Nat.reduceMul, Int.reduceAdd, Int.reduceMul, Int.reduceSub, Int.reduceEq, Int.reduceNe]
  cases he : (wishErr l w == 0)
  · have he' : ¬ wishErr l w = 0 := by simpa using he
    have hen : (wishErr l w != 0) = true := by simp [bne, he]
    simp (config := { maxSteps := 400000 }) only [he, hen, staysPV, bdStays, if_neg he', go_sem, ↓reduceIte, reduceCtorEq, Nat.reduceEqDiff, Nat.reduceAdd, Nat.reduceLT, Nat.reduceLeDiff, Nat.reduceSub, Int.reduceToNat, Int.reduceLE, Int.reduceLT, Int.reduceNeg, Int.reduceBEq, Int.reduceBNe, Nat.reduceMul, Int.reduceAdd, Int.reduceMul, Int.reduceSub, Int.reduceEq, Int.reduceNe]
  have he' : wishErr l w = 0 := by simpa using he
  obtain ⟨hl, hw⟩ := wishOk_of he'
  simp (config := { maxSteps := 400000 }) only [go_sem, ↓reduceIte, reduceCtorEq, Nat.reduceEqDiff, Nat.reduceAdd, Nat.reduceLT, Nat.reduceLeDiff, Nat.reduceSub, Int.reduceToNat, Int.reduceLE, Int.reduceLT, Int.reduceNeg, Int.reduceBEq, Int.reduceBNe, Nat.reduceMul, Int.reduceAdd, Int.reduceMul, Int.reduceSub, Int.reduceEq, Int.reduceNe]
  (first | refine WF_pure (cRefRecipe l.length r b hl.len.2) rfl ?_ | refine WDQ_pure (cRefRecipe l.length r b hl.len.2) rfl ?_)
  simp (config := { maxSteps := 400000 }) only [go_sem, ↓reduceIte, reduceCtorEq, Nat.reduceEqDiff, Nat.reduceAdd, Nat.reduceLT, Nat.reduceLeDiff, Nat.reduceSub, Int.reduceToNat, Int.reduceLE, Int.reduceLT, Int.reduceNeg, Int.reduceBEq, Int.reduceBNe, Nat.reduceMul, Int.reduceAdd, Int.reduceMul, Int.reduceSub, Int.reduceEq, Int.reduceNe]
  cases hr : (recErr l.length r == 0)
  · have hr' : ¬ recErr l.length r = 0 := by simpa using hr
    have hrn : (recErr l.length r != 0) = true := by simp [bne, hr]
    simp (config := { maxSteps := 400000 }) only [hr, hrn, staysPV, bdStays, if_pos he', if_neg hr', go_sem, ↓reduceIte, reduceCtorEq, Nat.reduceEqDiff, Nat.reduceAdd, Nat.reduceLT, Nat.reduceLeDiff, Nat.reduceSub, Int.reduceToNat, Int.reduceLE, Int.reduceLT, Int.reduceNeg, Int.reduceBEq, Int.reduceBNe, Nat.reduceMul, Int.reduceAdd, Int.reduceMul, Int.reduceSub, Int.reduceEq, Int.reduceNe]
  have hr' : recErr l.length r = 0 := by simpa using hr
  have hrn0 : (recErr l.length r != 0) = false := by simp [bne, hr]
  have hro := recOk_of hr'
  simp (config := { maxSteps := 400000 }) only [len_dec hl, go_sem, ↓reduceIte, reduceCtorEq, Nat.reduceEqDiff, Nat.reduceAdd, Nat.reduceLT, Nat.reduceLeDiff, Nat.reduceSub, Int.reduceToNat, Int.reduceLE, Int.reduceLT, Int.reduceNeg, Int.reduceBEq, Int.reduceBNe, Nat.reduceMul, Int.reduceAdd, Int.reduceMul, Int.reduceSub, Int.reduceEq, Int.reduceNe]
  (first | refine WF_pure (cIn1 _ _ _) rfl ?_ | refine WDQ_pure (cIn1 _ _ _) rfl ?_)
  simp (config := { maxSteps := 400000 }) only [go_sem, ↓reduceIte, reduceCtorEq, Nat.reduceEqDiff, Nat.reduceAdd, Nat.reduceLT, Nat.reduceLeDiff, Nat.reduceSub, Int.reduceToNat, Int.reduceLE, Int.reduceLT, Int.reduceNeg, Int.reduceBEq, Int.reduceBNe, Nat.reduceMul, Int.reduceAdd, Int.reduceMul, Int.reduceSub, Int.reduceEq, Int.reduceNe]
  cases hg : gIn wax 0 ((l.length : Int) - 1)
  · simp (config := { maxSteps := 400000 }) only [staysPV, bdStays, if_pos he', if_pos hr', hg, go_sem, ↓reduceIte, reduceCtorEq, Nat.reduceEqDiff, Nat.reduceAdd, Nat.reduceLT, Nat.reduceLeDiff, Nat.reduceSub, Int.reduceToNat, Int.reduceLE, Int.reduceLT, Int.reduceNeg, Int.reduceBEq, Int.reduceBNe, Nat.reduceMul, Int.reduceAdd, Int.reduceMul, Int.reduceSub, Int.reduceEq, Int.reduceNe]
  simp (config := { maxSteps := 400000 }) only [hr, go_sem, ↓reduceIte, reduceCtorEq, Nat.reduceEqDiff, Nat.reduceAdd, Nat.reduceLT, Nat.reduceLeDiff, Nat.reduceSub, Int.reduceToNat, Int.reduceLE, Int.reduceLT, Int.reduceNeg, Int.reduceBEq, Int.reduceBNe, Nat.reduceMul, Int.reduceAdd, Int.reduceMul, Int.reduceSub, Int.reduceEq, Int.reduceNe]
  (first | refine WF_pure (cWhy1 b hl hw hro.len hro.rng) rfl ?_ | refine WDQ_pure (cWhy1 b hl hw hro.len hro.rng) rfl ?_)
  simp (config := { maxSteps := 400000 }) only [go_sem, ↓reduceIte, reduceCtorEq, Nat.reduceEqDiff, Nat.reduceAdd, Nat.reduceLT, Nat.reduceLeDiff, Nat.reduceSub, Int.reduceToNat, Int.reduceLE, Int.reduceLT, Int.reduceNeg, Int.reduceBEq, Int.reduceBNe, Nat.reduceMul, Int.reduceAdd, Int.reduceMul, Int.reduceSub, Int.reduceEq, Int.reduceNe]
  cases hy : (whyS l w r != 0)
  rotate_left
  · have hy' : ¬ whyS l w r = 0 := by simpa using hy
    simp (config := { maxSteps := 400000 }) only [staysPV, bdStays, if_pos he', if_pos hr', hg, if_neg hy', go_sem, ↓reduceIte, reduceCtorEq, Nat.reduceEqDiff, Nat.reduceAdd, Nat.reduceLT, Nat.reduceLeDiff, Nat.reduceSub, Int.reduceToNat, Int.reduceLE, Int.reduceLT, Int.reduceNeg, Int.reduceBEq, Int.reduceBNe, Nat.reduceMul, Int.reduceAdd, Int.reduceMul, Int.reduceSub, Int.reduceEq, Int.reduceNe]
  have hy' : whyS l w r = 0 := by simpa using hy
  have hspec : bdStays l w r wax = match stayGo (fun x => r.getD wax.toNat 0 - x.getD wax.toNat 0) (fun x => restP l wax.toNat r - restP l wax.toNat x) ⟨0, 100000⟩ (fits l w) with
          | none => (⟨0, 0⟩, 9)
          | some s => if s.hi < s.lo then (⟨0, 0⟩, 9) else (s, 0) := by rw [bdStays, if_pos he', if_pos hr', if_pos hg, if_pos hy']
  rw [hspec]
  have hwx : 0 ≤ wax ∧ wax < (l.length : Int) := by simp [gIn] at hg; omega
  obtain ⟨y, hyl⟩ : ∃ y, l[wax.toNat]? = some y := ⟨_, List.getElem?_eq_getElem (by omega)⟩
  obtain ⟨n, hn⟩ : ∃ n, r[wax.toNat]? = some n := ⟨_, List.getElem?_eq_getElem (by have := hro.len; omega)⟩
  have hrlt : wax < (r.length : Int) := by have := hro.len; omega
  have hrr := rest_at hl hro hyl hn
  have hrn : r.getD wax.toNat 0 = n := by rw [List.getD_eq_getElem?_getD, hn]; rfl
  rw [hrn]
  obtain ⟨F, hF⟩ : ∃ F : List Int → Int, F = fun x => n - x.getD wax.toNat 0 := ⟨_, rfl⟩
  obtain ⟨G, hG⟩ : ∃ G : List Int → Int, G = fun x => restP l wax.toNat r - restP l wax.toNat x := ⟨_, rfl⟩
  rw [← hF, ← hG]
  have hfl := priced_ok hl (c := 0) hyl (by omega)
  obtain ⟨fl, hfd⟩ : ∃ fl, fl = l.set wax.toNat { y with price := 0 } := ⟨_, rfl⟩
  have hfree : ∀ x m, RecOk l.length x → x[wax.toNat]? = some m → bdPrice fl x = restP l wax.toNat x := fun x m hx hm => by
    rw [hfd, price_set l wax.toNat 0 y x m hyl hm, (rest_at hl hx hyl hm).1]; omega
  have hflen : fl.length = l.length := by rw [hfd]; simp
  have hsm := fits_small w hl
  have hrec : ∀ r, r ∈ fits l w → RecOk l.length r := fun r hr => (fits_rec hl hr).1
  simp (config := { maxSteps := 400000 }) only [hrn0, go_sem, ↓reduceIte, reduceCtorEq, Nat.reduceEqDiff, Nat.reduceAdd, Nat.reduceLT, Nat.reduceLeDiff, Nat.reduceSub, Int.reduceToNat, Int.reduceLE, Int.reduceLT, Int.reduceNeg, Int.reduceBEq, Int.reduceBNe, Nat.reduceMul, Int.reduceAdd, Int.reduceMul, Int.reduceSub, Int.reduceEq, Int.reduceNe]
  (first | refine WF_pure (cRefPriced l wax 0 y hl.len.2 hwx.1 hyl) rfl ?_ | refine WDQ_pure (cRefPriced l wax 0 y hl.len.2 hwx.1 hyl) rfl ?_)
  rw [← hfd]
  rw [← hfd] at hfl
  simp (config := { maxSteps := 400000 }) only [go_sem, ↓reduceIte, reduceCtorEq, Nat.reduceEqDiff, Nat.reduceAdd, Nat.reduceLT, Nat.reduceLeDiff, Nat.reduceSub, Int.reduceToNat, Int.reduceLE, Int.reduceLT, Int.reduceNeg, Int.reduceBEq, Int.reduceBNe, Nat.reduceMul, Int.reduceAdd, Int.reduceMul, Int.reduceSub, Int.reduceEq, Int.reduceNe]
  (first | refine WF_pure (cRefFitting l w hl hw) rfl ?_ | refine WDQ_pure (cRefFitting l w hl hw) rfl ?_)
  simp (config := { maxSteps := 400000 }) only [go_sem, ↓reduceIte, reduceCtorEq, Nat.reduceEqDiff, Nat.reduceAdd, Nat.reduceLT, Nat.reduceLeDiff, Nat.reduceSub, Int.reduceToNat, Int.reduceLE, Int.reduceLT, Int.reduceNeg, Int.reduceBEq, Int.reduceBNe, Nat.reduceMul, Int.reduceAdd, Int.reduceMul, Int.reduceSub, Int.reduceEq, Int.reduceNe]
  generalize fits l w = all at hsm hrec
  refine W_rangeA [2, 3, 8, 11, 12, 13] all (by omega) (τ := Span) (fun done rest s => stayGo F G ⟨0, 100000⟩ done = some s) (fun done s => [(14, .p (.int .i64 done.length))])
    (fun _ s => [.row 5 [.p w.pv], .row 2 [.p (.agg [.int .i64 0, .int .i64 0])], .row 2 [.p s.pv]]) ⟨0, 100000⟩ rfl ?_ ?_ ?_
  · simp (config := { maxSteps := 400000 }) only [go_sem, ↓reduceIte, reduceCtorEq, Nat.reduceEqDiff, Nat.reduceAdd, Nat.reduceLT, Nat.reduceLeDiff, Nat.reduceSub, Int.reduceToNat, Int.reduceLE, Int.reduceLT, Int.reduceNeg, Int.reduceBEq, Int.reduceBNe, Nat.reduceMul, Int.reduceAdd, Int.reduceMul, Int.reduceSub, Int.reduceEq, Int.reduceNe] <;> simp
  · intro s e2
    rw [e2]
    simp (config := { maxSteps := 400000 }) only [go_sem, ↓reduceIte, reduceCtorEq, Nat.reduceEqDiff, Nat.reduceAdd, Nat.reduceLT, Nat.reduceLeDiff, Nat.reduceSub, Int.reduceToNat, Int.reduceLE, Int.reduceLT, Int.reduceNeg, Int.reduceBEq, Int.reduceBNe, Nat.reduceMul, Int.reduceAdd, Int.reduceMul, Int.reduceSub, Int.reduceEq, Int.reduceNe]
    refine WB_split (fun hb => ?_) (fun hb => ?_)
    · have hb' : s.hi < s.lo := by simpa using hb
      simp (config := { maxSteps := 400000 }) only [staysPV, if_pos hb', go_sem, ↓reduceIte, reduceCtorEq, Nat.reduceEqDiff, Nat.reduceAdd, Nat.reduceLT, Nat.reduceLeDiff, Nat.reduceSub, Int.reduceToNat, Int.reduceLE, Int.reduceLT, Int.reduceNeg, Int.reduceBEq, Int.reduceBNe, Nat.reduceMul, Int.reduceAdd, Int.reduceMul, Int.reduceSub, Int.reduceEq, Int.reduceNe]
    · have hb' : ¬ s.hi < s.lo := by simpa using hb
      simp (config := { maxSteps := 400000 }) only [staysPV, if_neg hb', go_sem, ↓reduceIte, reduceCtorEq, Nat.reduceEqDiff, Nat.reduceAdd, Nat.reduceLT, Nat.reduceLeDiff, Nat.reduceSub, Int.reduceToNat, Int.reduceLE, Int.reduceLT, Int.reduceNeg, Int.reduceBEq, Int.reduceBNe, Nat.reduceMul, Int.reduceAdd, Int.reduceMul, Int.reduceSub, Int.reduceEq, Int.reduceNe]
  · intro done x rest s e1 e2 hx hlt hnx
    have hxo := hrec x (by rw [e1]; simp)
    obtain ⟨m, hm⟩ : ∃ m, x[wax.toNat]? = some m := ⟨_, List.getElem?_eq_getElem (by have := hxo.len; omega)⟩
    have hxx := rest_at hl hxo hyl hm
    have hxlt : wax < (x.length : Int) := by have := hxo.len; omega
    have hFx : F x = n - m := by rw [hF]; dsimp only; rw [List.getD_eq_getElem?_getD, hm]; rfl
    have hGx : G x = restP l wax.toNat r - restP l wax.toNat x := by rw [hG]
    have hsn := stayGo_snoc F G done ⟨0, 100000⟩ x
    rw [e2] at hsn
    dsimp only at hsn
    have w1 : IntKind.i64.wrap (n - m) = F x := by rw [hFx]; exact wrap_in (by omega) (by omega)
    have p1 : sumP fPrice (fl.zip r) = restP l wax.toNat r := hfree r n hro hn
    have p2 : sumP fPrice (fl.zip x) = restP l wax.toNat x := hfree x m hxo hm
    have w2 : IntKind.i64.wrap (restP l wax.toNat r - restP l wax.toNat x) = G x := by rw [hGx]; exact wrap_in (by omega) (by omega)
    have hFb : -20 ≤ F x ∧ F x ≤ 20 := by omega
    have hGb : -100000000 ≤ G x ∧ G x ≤ 100000000 := by omega
    simp (config := { maxSteps := 400000 }) only [hlt, hx, hrlt, hwx.1, hn, hxlt, hm, go_sem, ↓reduceIte, reduceCtorEq, Nat.reduceEqDiff, Nat.reduceAdd, Nat.reduceLT, Nat.reduceLeDiff, Nat.reduceSub, Int.reduceToNat, Int.reduceLE, Int.reduceLT, Int.reduceNeg, Int.reduceBEq, Int.reduceBNe, Nat.reduceMul, Int.reduceAdd, Int.reduceMul, Int.reduceSub, Int.reduceEq, Int.reduceNe]
    (first | refine WF_pure (cRefPriceZ false b hfl (by rw [hflen]; exact hro.len) hro.rng) rfl ?_ | refine WDQ_pure (cRefPriceZ false b hfl (by rw [hflen]; exact hro.len) hro.rng) rfl ?_)
    simp (config := { maxSteps := 400000 }) only [hlt, hx, go_sem, ↓reduceIte, reduceCtorEq, Nat.reduceEqDiff, Nat.reduceAdd, Nat.reduceLT, Nat.reduceLeDiff, Nat.reduceSub, Int.reduceToNat, Int.reduceLE, Int.reduceLT, Int.reduceNeg, Int.reduceBEq, Int.reduceBNe, Nat.reduceMul, Int.reduceAdd, Int.reduceMul, Int.reduceSub, Int.reduceEq, Int.reduceNe]
    (first | refine WF_pure (cRefPriceZ false false hfl (by rw [hflen]; exact hxo.len) hxo.rng) rfl ?_ | refine WDQ_pure (cRefPriceZ false false hfl (by rw [hflen]; exact hxo.len) hxo.rng) rfl ?_)
    simp (config := { maxSteps := 400000 }) only [p1, p2, w1, w2, go_sem, ↓reduceIte, reduceCtorEq, Nat.reduceEqDiff, Nat.reduceAdd, Nat.reduceLT, Nat.reduceLeDiff, Nat.reduceSub, Int.reduceToNat, Int.reduceLE, Int.reduceLT, Int.reduceNeg, Int.reduceBEq, Int.reduceBNe, Nat.reduceMul, Int.reduceAdd, Int.reduceMul, Int.reduceSub, Int.reduceEq, Int.reduceNe]
    have hfz : (F x == 0) = (!decide (0 < F x) && !decide (F x < 0)) := by
      by_cases ha : 0 < F x
      · have : ¬ F x = 0 := by omega
        simp [ha, this]
      · by_cases hc : F x < 0
        · have : ¬ F x = 0 := by omega
          simp [hc, this]
        · have : F x = 0 := by omega
          simp [this]
    cases h1 : decide (0 < F x)
    rotate_left
    · have h1' : 0 < F x := by simpa using h1
      have h2' : decide (F x < 0) = false := by simp; omega
      have wn : IntKind.i64.wrap (-G x) = -G x := wrap_in (by omega) (by omega)
      rw [h1] at hfz
      rw [stayStep, if_pos h1'] at hsn
      simp (config := { maxSteps := 400000 }) only [wn, go_sem, ↓reduceIte, reduceCtorEq, Nat.reduceEqDiff, Nat.reduceAdd, Nat.reduceLT, Nat.reduceLeDiff, Nat.reduceSub, Int.reduceToNat, Int.reduceLE, Int.reduceLT, Int.reduceNeg, Int.reduceBEq, Int.reduceBNe, Nat.reduceMul, Int.reduceAdd, Int.reduceMul, Int.reduceSub, Int.reduceEq, Int.reduceNe]
      (first | refine WF_pure (cDown1 _ _ (by omega) h1') rfl ?_ | refine WDQ_pure (cDown1 _ _ (by omega) h1') rfl ?_)
      simp (config := { maxSteps := 400000 }) only [h2', hfz, go_sem, ↓reduceIte, reduceCtorEq, Nat.reduceEqDiff, Nat.reduceAdd, Nat.reduceLT, Nat.reduceLeDiff, Nat.reduceSub, Int.reduceToNat, Int.reduceLE, Int.reduceLT, Int.reduceNeg, Int.reduceBEq, Int.reduceBNe, Nat.reduceMul, Int.reduceAdd, Int.reduceMul, Int.reduceSub, Int.reduceEq, Int.reduceNe]
      refine WQ_next e1 _ hsn ?_
      simp (config := { maxSteps := 400000 }) only [hnx, go_sem, ↓reduceIte, reduceCtorEq, Nat.reduceEqDiff, Nat.reduceAdd, Nat.reduceLT, Nat.reduceLeDiff, Nat.reduceSub, Int.reduceToNat, Int.reduceLE, Int.reduceLT, Int.reduceNeg, Int.reduceBEq, Int.reduceBNe, Nat.reduceMul, Int.reduceAdd, Int.reduceMul, Int.reduceSub, Int.reduceEq, Int.reduceNe]
    have h1' : ¬ 0 < F x := by simpa using h1
    rw [stayStep, if_neg h1'] at hsn
    rw [h1] at hfz
    simp (config := { maxSteps := 400000 }) only [go_sem, ↓reduceIte, reduceCtorEq, Nat.reduceEqDiff, Nat.reduceAdd, Nat.reduceLT, Nat.reduceLeDiff, Nat.reduceSub, Int.reduceToNat, Int.reduceLE, Int.reduceLT, Int.reduceNeg, Int.reduceBEq, Int.reduceBNe, Nat.reduceMul, Int.reduceAdd, Int.reduceMul, Int.reduceSub, Int.reduceEq, Int.reduceNe]
    cases h2 : decide (F x < 0)
    rotate_left
    · have h2' : F x < 0 := by simpa using h2
      have wn : IntKind.i64.wrap (-G x) = -G x := wrap_in (by omega) (by omega)
      have wf : IntKind.i64.wrap (-F x) = -F x := wrap_in (by omega) (by omega)
      have hq : -100000000 ≤ (-G x) / (-F x) ∧ (-G x) / (-F x) ≤ 100000000 := by
        have hp : 0 < -F x := by omega
        constructor
        · rw [Int.le_ediv_iff_mul_le hp]
          have : (-100000000) * (-F x) ≤ (-100000000) * 1 := Int.mul_le_mul_of_nonpos_left (by omega) (by omega)
          omega
        · have := Int.ediv_le_ediv hp (show -G x ≤ 100000000 * (-F x) by have : 100000000 * 1 ≤ 100000000 * (-F x) := Int.mul_le_mul_of_nonneg_left (by omega) (by omega); omega)
          rwa [Int.mul_ediv_cancel _ (by omega)] at this
      have wd : IntKind.i64.wrap (-((-G x) / (-F x))) = -((-G x) / (-F x)) := wrap_in (by omega) (by omega)
      rw [h2] at hfz
      rw [if_pos h2'] at hsn
      simp (config := { maxSteps := 400000 }) only [wn, wf, go_sem, ↓reduceIte, reduceCtorEq, Nat.reduceEqDiff, Nat.reduceAdd, Nat.reduceLT, Nat.reduceLeDiff, Nat.reduceSub, Int.reduceToNat, Int.reduceLE, Int.reduceLT, Int.reduceNeg, Int.reduceBEq, Int.reduceBNe, Nat.reduceMul, Int.reduceAdd, Int.reduceMul, Int.reduceSub, Int.reduceEq, Int.reduceNe]
      (first | refine WF_pure (cDown1 _ _ (by omega) (by omega)) rfl ?_ | refine WDQ_pure (cDown1 _ _ (by omega) (by omega)) rfl ?_)
      simp (config := { maxSteps := 400000 }) only [wd, hfz, go_sem, ↓reduceIte, reduceCtorEq, Nat.reduceEqDiff, Nat.reduceAdd, Nat.reduceLT, Nat.reduceLeDiff, Nat.reduceSub, Int.reduceToNat, Int.reduceLE, Int.reduceLT, Int.reduceNeg, Int.reduceBEq, Int.reduceBNe, Nat.reduceMul, Int.reduceAdd, Int.reduceMul, Int.reduceSub, Int.reduceEq, Int.reduceNe]
      refine WQ_next e1 _ hsn ?_
      simp (config := { maxSteps := 400000 }) only [hnx, go_sem, ↓reduceIte, reduceCtorEq, Nat.reduceEqDiff, Nat.reduceAdd, Nat.reduceLT, Nat.reduceLeDiff, Nat.reduceSub, Int.reduceToNat, Int.reduceLE, Int.reduceLT, Int.reduceNeg, Int.reduceBEq, Int.reduceBNe, Nat.reduceMul, Int.reduceAdd, Int.reduceMul, Int.reduceSub, Int.reduceEq, Int.reduceNe]
    have h2' : ¬ F x < 0 := by simpa using h2
    rw [h2] at hfz
    rw [if_neg h2'] at hsn
    simp (config := { maxSteps := 400000 }) only [hfz, go_sem, ↓reduceIte, reduceCtorEq, Nat.reduceEqDiff, Nat.reduceAdd, Nat.reduceLT, Nat.reduceLeDiff, Nat.reduceSub, Int.reduceToNat, Int.reduceLE, Int.reduceLT, Int.reduceNeg, Int.reduceBEq, Int.reduceBNe, Nat.reduceMul, Int.reduceAdd, Int.reduceMul, Int.reduceSub, Int.reduceEq, Int.reduceNe]
    cases h3 : decide (0 < G x)
    · have h3' : ¬ 0 < G x := by simpa using h3
      rw [if_neg h3'] at hsn
      simp (config := { maxSteps := 400000 }) only [go_sem, ↓reduceIte, reduceCtorEq, Nat.reduceEqDiff, Nat.reduceAdd, Nat.reduceLT, Nat.reduceLeDiff, Nat.reduceSub, Int.reduceToNat, Int.reduceLE, Int.reduceLT, Int.reduceNeg, Int.reduceBEq, Int.reduceBNe, Nat.reduceMul, Int.reduceAdd, Int.reduceMul, Int.reduceSub, Int.reduceEq, Int.reduceNe]
      refine WQ_next e1 _ hsn ?_
      simp (config := { maxSteps := 400000 }) only [hnx, go_sem, ↓reduceIte, reduceCtorEq, Nat.reduceEqDiff, Nat.reduceAdd, Nat.reduceLT, Nat.reduceLeDiff, Nat.reduceSub, Int.reduceToNat, Int.reduceLE, Int.reduceLT, Int.reduceNeg, Int.reduceBEq, Int.reduceBNe, Nat.reduceMul, Int.reduceAdd, Int.reduceMul, Int.reduceSub, Int.reduceEq, Int.reduceNe]
    · have h3' : 0 < G x := by simpa using h3
      rw [if_pos h3'] at hsn
      have hall : stayGo F G ⟨0, 100000⟩ all = none := by
        have := stayGo_none F G _ rest _ hsn
        rw [e1]
        simpa using this
      rw [hall]
      simp (config := { maxSteps := 400000 }) only [staysPV, go_sem, ↓reduceIte, reduceCtorEq, Nat.reduceEqDiff, Nat.reduceAdd, Nat.reduceLT, Nat.reduceLeDiff, Nat.reduceSub, Int.reduceToNat, Int.reduceLE, Int.reduceLT, Int.reduceNeg, Int.reduceBEq, Int.reduceBNe, Nat.reduceMul, Int.reduceAdd, Int.reduceMul, Int.reduceSub, Int.reduceEq, Int.reduceNe]
/-! lists that are equal -/
theorem cInts (a c : List Int) (b1 b2 : Bool) (ha : a.length < 1000000000) (hc : c.length < 1000000000) : PCall Try.prog 26 [.slice 1 (a.map intPV) b1, .slice 1 (c.map intPV) b2] (.bool (a == c)) := by
  refine pcall_of_wp draws (fn := Try.f26) (n := 26) (rs := [.tmp 4]) (by kernel_rfl) rfl rfl rfl ok26 (Nat.le_of_ble_eq_true rfl) ?_
  simp (config := { maxSteps := 400000 }) only [go_sem, ↓reduceIte, reduceCtorEq, Nat.reduceEqDiff, Nat.reduceAdd, Nat.reduceLT, Nat.reduceLeDiff, Nat.reduceSub, Int.reduceToNat, Int.reduceLE, Int.reduceLT, Int.reduceNeg, Int.reduceBEq, Int.reduceBNe, Nat.reduceMul, Int.reduceAdd, Int.reduceMul, Int.reduceSub, Int.reduceEq, Int.reduceNe]
  refine WB_split (fun hb => ?_) (fun hb => ?_) <;> simp (config := { maxSteps := 400000 }) only [hb, go_sem, ↓reduceIte, reduceCtorEq, Nat.reduceEqDiff, Nat.reduceAdd, Nat.reduceLT, Nat.reduceLeDiff, Nat.reduceSub, Int.reduceToNat, Int.reduceLE, Int.reduceLT, Int.reduceNeg, Int.reduceBEq, Int.reduceBNe, Nat.reduceMul, Int.reduceAdd, Int.reduceMul, Int.reduceSub, Int.reduceEq, Int.reduceNe]
  · have : ¬ (a = c) := fun h => by subst h; simp at hb
    simp [this]
  have hlen : a.length = c.length := by simp [bne] at hb; omega
  refine W_rangeH [0, 1] a ha (τ := Unit) (fun done rest _ => c.take done.length = done) (fun done _ => [(5, .p (.int .i64 done.length))]) () (by simp) ?_ ?_ ?_
  · simp (config := { maxSteps := 400000 }) only [go_sem, ↓reduceIte, reduceCtorEq, Nat.reduceEqDiff, Nat.reduceAdd, Nat.reduceLT, Nat.reduceLeDiff, Nat.reduceSub, Int.reduceToNat, Int.reduceLE, Int.reduceLT, Int.reduceNeg, Int.reduceBEq, Int.reduceBNe, Nat.reduceMul, Int.reduceAdd, Int.reduceMul, Int.reduceSub, Int.reduceEq, Int.reduceNe] <;> simp
  · intro _ e2
    rw [List.take_of_length_le (by omega)] at e2
    subst e2
    simp (config := { maxSteps := 400000 }) only [go_sem, ↓reduceIte, reduceCtorEq, Nat.reduceEqDiff, Nat.reduceAdd, Nat.reduceLT, Nat.reduceLeDiff, Nat.reduceSub, Int.reduceToNat, Int.reduceLE, Int.reduceLT, Int.reduceNeg, Int.reduceBEq, Int.reduceBNe, Nat.reduceMul, Int.reduceAdd, Int.reduceMul, Int.reduceSub, Int.reduceEq, Int.reduceNe]
    simp
  · intro done x rest _ e1 e2 hx hlt hnx
    have hlt2 : (done.length : Int) < (c.length : Int) := by omega
    obtain ⟨y, hy⟩ : ∃ y, c[done.length]? = some y := ⟨_, List.getElem?_eq_getElem (by omega)⟩
    simp (config := { maxSteps := 400000 }) only [hlt, hlt2, hx, hy, go_sem, ↓reduceIte, reduceCtorEq, Nat.reduceEqDiff, Nat.reduceAdd, Nat.reduceLT, Nat.reduceLeDiff, Nat.reduceSub, Int.reduceToNat, Int.reduceLE, Int.reduceLT, Int.reduceNeg, Int.reduceBEq, Int.reduceBNe, Nat.reduceMul, Int.reduceAdd, Int.reduceMul, Int.reduceSub, Int.reduceEq, Int.reduceNe]
    refine WB_split (fun hb => ?_) (fun hb => ?_) <;> simp (config := { maxSteps := 400000 }) only [hb, go_sem, ↓reduceIte, reduceCtorEq, Nat.reduceEqDiff, Nat.reduceAdd, Nat.reduceLT, Nat.reduceLeDiff, Nat.reduceSub, Int.reduceToNat, Int.reduceLE, Int.reduceLT, Int.reduceNeg, Int.reduceBEq, Int.reduceBNe, Nat.reduceMul, Int.reduceAdd, Int.reduceMul, Int.reduceSub, Int.reduceEq, Int.reduceNe]
    · have : ¬ (a = c) := fun h => by
        subst h
        rw [hx] at hy; cases hy; simp at hb
      simp [this]
    · have hxy : x = y := by simpa using hb
      refine WQ_next e1 () (by rw [List.length_append, List.length_singleton, List.take_add_one, e2, hy, hxy]; rfl) ?_
      simp (config := { maxSteps := 400000 }) only [hnx, go_sem, ↓reduceIte, reduceCtorEq, Nat.reduceEqDiff, Nat.reduceAdd, Nat.reduceLT, Nat.reduceLeDiff, Nat.reduceSub, Int.reduceToNat, Int.reduceLE, Int.reduceLT, Int.reduceNeg, Int.reduceBEq, Int.reduceBNe, Nat.reduceMul, Int.reduceAdd, Int.reduceMul, Int.reduceSub, Int.reduceEq, Int.reduceNe]
end Abs
end Go.Proofs.Ythekmbikolpmlaa
