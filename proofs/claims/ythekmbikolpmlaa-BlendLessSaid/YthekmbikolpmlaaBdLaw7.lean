/-
  CONTRACTS: the law BlendTurned.
-/
import Derived.Test.YthekmbikolpmlaaBdLaw4
namespace Go.Proofs.Ythekmbikolpmlaa
namespace Abs
set_option linter.unusedSimpArgs false
set_option linter.unusedVariables false
set_option maxRecDepth 100000

/-! rows that are handed over for good: several of them, also inside an aggregate -/
def onlyK (K : Nat → Bool) : AV → Prop
  | .p _ => True
  | .slice i _ _ _ => K i = true
  | .ptr i _ _ _ => K i = true
  | _ => False
def onlyA (K : Nat → Bool) : AV → Prop
  | .agg cs => ∀ c, c ∈ cs → onlyK K c
  | a => onlyK K a
theorem frz_onlyK {K : Nat → Bool} {h : Heap} (hK : ∀ id, K id = true → ∃ (sz : Nat) (xs : List PV), h[id]? = some (.row sz (xs.map .p))) (n : Nat) {a : AV} {q : PV} (ha : onlyK K a) (hf : frzN n h a = some q) : frzN n (killH (fun i => !K i) h) a = some q := by
  cases a with
  | p v => rw [frzN_p] at hf ⊢; exact hf
  | slice i ver off len =>
    obtain ⟨sz, xs, hid⟩ := hK i ha
    have hk : (killH (fun i => !K i) h)[i]? = some (.row sz (xs.map .p)) := by rw [killH_keep (by have h : K i = true := ha; simp [h])]; exact hid
    cases n with
    | zero => cases hf
    | succ n =>
      unfold frzN at hf ⊢
      rw [hk]
      rw [hid] at hf
      simp only [frzRow, frzList_p] at hf ⊢
      exact hf
  | ptr i ver off len =>
    obtain ⟨sz, xs, hid⟩ := hK i ha
    have hk : (killH (fun i => !K i) h)[i]? = some (.row sz (xs.map .p)) := by rw [killH_keep (by have h : K i = true := ha; simp [h])]; exact hid
    cases n with
    | zero => cases hf
    | succ n =>
      unfold frzN at hf ⊢
      rw [hk]
      rw [hid] at hf
      simp only [frzRow, frzList_p] at hf ⊢
      exact hf
  | _ => exact ha.elim
theorem frz_onlyA {K : Nat → Bool} {h : Heap} (hK : ∀ id, K id = true → ∃ (sz : Nat) (xs : List PV), h[id]? = some (.row sz (xs.map .p))) {a : AV} {q : PV} (ha : onlyA K a) (hf : frz h a = some q) : frz (killH (fun i => !K i) h) a = some q := by
  cases a with
  | agg cs =>
    unfold frz frzN at hf ⊢
    simp only [Option.map_eq_some_iff] at hf ⊢
    obtain ⟨l, hl, rfl⟩ := hf
    refine ⟨l, ?_, rfl⟩
    have key : ∀ (cs : List AV) (l : List PV), (∀ c, c ∈ cs → onlyK K c) → frzList (frzN 7 h) cs = some l → frzList (frzN 7 (killH (fun i => !K i) h)) cs = some l := by
      intro cs
      induction cs with
      | nil => intro l _ e; exact e
      | cons c cs ih =>
        intro l ho e
        unfold frzList at e ⊢
        split at e
        · rename_i q r h1 h2
          rw [frz_onlyK hK 7 (ho c (by simp)) h1, ih r (fun b hb => ho b (by simp [hb])) h2]
          exact e
        · cases e
    exact key cs l ha hl
  | p v => exact frz_onlyK hK 8 ha hf
  | slice _ _ _ _ => exact frz_onlyK hK 8 ha hf
  | ptr _ _ _ _ => exact frz_onlyK hK 8 ha hf
  | _ => exact ha.elim
theorem WF_killK {P : Program} {H : Hints} {Q : Cont} {ops : Array Oper} {rest : List Oper} {dst : Option Tmp} {A : AAct} {f : FuncId} {args : List AV} {pargs : List PV} {v : PV} (hc : PCall P f pargs v) (K : Nat → Bool)
    (hK : ∀ id, K id = true → ∃ (sz : Nat) (xs : List PV), A.h[id]? = some (.row sz (xs.map .p))) (ho : ∀ a, a ∈ args → onlyA K a) (ha : frzL A.h args = some pargs) (h : @WO ⟨P, H, ops, rest, Q⟩ (A.put dst (.p v) (killH K A.h))) : @WF ⟨P, H, ops, rest, Q, dst⟩ A f args := by
  have hL : ∀ (l : List AV) (qs : List PV), (∀ a, a ∈ l → onlyA K a) → frzL A.h l = some qs → frzL (killH (fun i => !K i) A.h) l = some qs := by
    intro l
    induction l with
    | nil => intro qs _ e; exact e
    | cons a l ih =>
      intro qs ho e
      unfold frzL frzList at e ⊢
      split at e
      · rename_i q r h1 h2
        rw [frz_onlyA hK (ho a (by simp)) h1]
        have := ih r (fun b hb => ho b (by simp [hb])) h2
        unfold frzL at this
        rw [this]
        exact e
      · cases e
  exact WF_ret (hcall_kill K hc (hL _ _ ho ha)) h
theorem onlyA_nil (K : Nat → Bool) : (∀ a, a ∈ ([] : List AV) → onlyA K a) = True := by simp
theorem onlyA_cons (K : Nat → Bool) (x : AV) (l : List AV) : (∀ a, a ∈ x :: l → onlyA K a) = (onlyA K x ∧ ∀ a, a ∈ l → onlyA K a) := by simp
attribute [go_sem] onlyA onlyK onlyA_nil onlyA_cons

/-! lists turned -/
def rot {α : Type} (b : Nat) (l : List α) : List α := l.drop b ++ l.take b
theorem rot_len {α : Type} (b : Nat) (l : List α) : (rot b l).length = l.length := by simp [rot]; omega
theorem rot_map {α β : Type} (f : α → β) (b : Nat) (l : List α) : (rot b l).map f = rot b (l.map f) := by simp [rot, List.map_drop, List.map_take]
theorem rot_mem {α : Type} {b : Nat} {l : List α} {x : α} : x ∈ rot b l ↔ x ∈ l := by
  unfold rot
  rw [List.mem_append, or_comm, ← List.mem_append, List.take_append_drop]
theorem rot_zip {α β : Type} (b : Nat) (l : List α) (r : List β) (h : r.length = l.length) : (rot b l).zip (rot b r) = rot b (l.zip r) := by
  unfold rot
  rw [List.zip_append (by simp; omega), List.zip_eq_zipWith, List.zip_eq_zipWith, List.zip_eq_zipWith, List.drop_zipWith, List.take_zipWith]
theorem rot_sum (b : Nat) (l : List Int) : (rot b l).sum = l.sum := by
  have h : (l.take b ++ l.drop b).sum = l.sum := by rw [List.take_append_drop]
  rw [List.sum_append] at h
  unfold rot
  rw [List.sum_append]; omega
theorem rot_any {α : Type} (b : Nat) (l : List α) (p : α → Bool) : (rot b l).any p = l.any p := by
  have h : (l.take b ++ l.drop b).any p = l.any p := by rw [List.take_append_drop]
  rw [List.any_append] at h
  unfold rot
  rw [List.any_append, Bool.or_comm]; exact h
/-- turned back -/
theorem rot_back {α : Type} {b : Nat} {l : List α} (hb : b ≤ l.length) : rot (l.length - b) (rot b l) = l := by
  unfold rot
  have h1 : (l.drop b).length = l.length - b := by simp
  rw [List.drop_left' h1, List.take_left' h1, List.take_append_drop]
theorem rot_get {α : Type} {b i : Nat} {l : List α} (hb : b < l.length) (hi : i < l.length) : (rot b l)[i]? = l[(i + b) % l.length]? := by
  unfold rot
  by_cases h : i < l.length - b
  · rw [List.getElem?_append_left (by simp; omega), List.getElem?_drop, Nat.mod_eq_of_lt (by omega), Nat.add_comm]
  · have e : (i + b) % l.length = i + b - l.length := by
      rw [Nat.mod_eq_sub_mod (by omega), Nat.mod_eq_of_lt (by omega)]
    rw [List.getElem?_append_right (by simp; omega), e, List.getElem?_take]
    simp only [List.length_drop]
    rw [if_pos (by omega)]
    congr 1; omega
theorem rot_pairwise {α : Type} {R : α → α → Prop} (hs : ∀ a b, R a b → R b a) {b : Nat} {l : List α} (h : l.Pairwise R) : (rot b l).Pairwise R := by
  have h' : (l.take b ++ l.drop b).Pairwise R := by rw [List.take_append_drop]; exact h
  obtain ⟨h1, h2, h3⟩ := List.pairwise_append.1 h'
  exact List.pairwise_append.2 ⟨h2, h1, fun x hx y hy => hs _ _ (h3 y hy x hx)⟩
theorem bytes_comm (a b : ByteArray) : (a == b) = (b == a) := by
  cases a with | mk x => cases b with | mk y => exact (BEq.comm : (x == y) = (y == x))
theorem rot_bdE {l : List BdWax} (b : Nat) (h : bdE l = 0) : bdE (rot b l) = 0 := by
  obtain ⟨h1, h2, h3⟩ := (bdE_iff l).1 h
  refine (bdE_iff _).2 ⟨by rw [rot_len]; exact h1, fun x hx => h2 x (rot_mem.1 hx), rot_pairwise (fun a b hab => ?_) h3⟩
  rw [bytes_comm]; exact hab
def rotW (b : Nat) (w : BdWish) : BdWish := ⟨rot b w.parts, w.melt, w.shrink⟩
theorem rot_wish {l : List BdWax} {w : BdWish} (b : Nat) (h : wishErr l w = 0) : wishErr (rot b l) (rotW b w) = 0 := by
  obtain ⟨hl, hw⟩ := wishOk_of h
  have hwl := hw.len
  have hbe := wish_bdE h
  rw [wishErr, if_pos hbe, if_pos hwl] at h
  rw [wishErr, if_pos (rot_bdE b hbe), if_pos (by simp only [rotW]; rw [rot_len, rot_len]; exact hwl)]
  simp only [rotW, rot_any]
  exact h
theorem rot_sumP (F : BdWax × Int → Int) (b : Nat) (l : List BdWax) (r : List Int) (h : r.length = l.length) : sumP F ((rot b l).zip (rot b r)) = sumP F (l.zip r) := by
  unfold sumP
  rw [rot_zip b l r h, rot_map, rot_sum]
theorem rot_why {l : List BdWax} {w : BdWish} {r : List Int} (b : Nat) (hr : r.length = l.length) (hw : w.parts.length = l.length) : whyS (rot b l) (rotW b w) (rot b r) = whyS l w r := by
  have e1 : partsOut (rotW b w) (rot b r) = partsOut w r := by
    unfold partsOut
    show (((rot b r).zip (rot b w.parts)).any fun q => !gIn q.1 q.2.lo q.2.hi) = _
    rw [rot_zip b r w.parts (by omega), rot_any]
  have e2 : meltP ((rot b l).zip (rot b r)) = meltP (l.zip r) := by unfold meltP; rw [rot_sumP fSoft b l r hr, rot_sumP fHard b l r hr, rot_sumP fRaise b l r hr]
  have e3 : shrinkP ((rot b l).zip (rot b r)) = shrinkP (l.zip r) := by unfold shrinkP; rw [rot_sumP fLeast b l r hr, rot_sumP fMost b l r hr]
  unfold whyS
  rw [e1, e2, e3]; rfl
theorem rot_rec {m : Nat} {r : List Int} (b : Nat) (h : RecOk m r) : RecOk m (rot b r) := ⟨by rw [rot_len]; exact h.len, fun n hn => h.rng n (rot_mem.1 hn), by rw [rot_sum]; exact h.sum⟩
theorem rot_fits {l : List BdWax} {w : BdWish} {r : List Int} (b : Nat) (h : wishErr l w = 0) (hr : r ∈ fits l w) : rot b r ∈ fits (rot b l) (rotW b w) := by
  obtain ⟨hl, hw⟩ := wishOk_of h
  obtain ⟨h1, h2⟩ := fits_rec hl hr
  obtain ⟨hl', _⟩ := wishOk_of (rot_wish b h)
  refine mem_fits hl' (by rw [rot_len]; exact rot_rec b h1) ?_
  rw [rot_why b h1.len hw.len]; exact h2
theorem rot_price {l : List BdWax} {r : List Int} (b : Nat) (h : r.length = l.length) : bdPrice (rot b l) (rot b r) = bdPrice l r := rot_sumP fPrice b l r h
/-- the least price is the same -/
theorem rot_cheap {l : List BdWax} {w : BdWish} {b : Nat} (hb : b < l.length) (h : wishErr l w = 0) :
    (bdCheapest (rot b l) (rotW b w)).2 = (bdCheapest l w).2 := by
  obtain ⟨hl, hw⟩ := wishOk_of h
  have h' := rot_wish b h
  obtain ⟨hl', hw'⟩ := wishOk_of h'
  have hback : ∀ r, r ∈ fits (rot b l) (rotW b w) → ∃ s, s ∈ fits l w ∧ bdPrice l s = bdPrice (rot b l) r := fun r hr => by
    have h1 := rot_fits (l.length - b) h' hr
    have e1 : rot (l.length - b) (rot b l) = l := rot_back (by omega)
    have e2 : rotW (l.length - b) (rotW b w) = w := by
      unfold rotW
      have : rot (l.length - b) (rot b w.parts) = w.parts := by rw [← hw.len]; exact rot_back (by have := hw.len; omega)
      simp only [this]
    rw [e1, e2] at h1
    refine ⟨_, h1, ?_⟩
    have := rot_price (l := rot b l) (r := r) (l.length - b) (fits_rec hl' hr).1.len
    rwa [e1] at this
  rw [best_at h, best_at h']
  cases h1 : cheapGo (bdPrice l) none (fits l w) with
  | none =>
    have hn := cheapGo_none _ h1
    cases h2 : cheapGo (bdPrice (rot b l)) none (fits (rot b l) (rotW b w)) with
    | none => rfl
    | some r =>
      obtain ⟨s, hs, _⟩ := hback r (cheapGo_in _ h2)
      rw [hn] at hs; cases hs
  | some s =>
    have hs := cheapGo_in _ h1
    have hs' := rot_fits b h hs
    cases h2 : cheapGo (bdPrice (rot b l)) none (fits (rot b l) (rotW b w)) with
    | none =>
      rw [cheapGo_none _ h2] at hs'; cases hs'
    | some r =>
      have m1 := (cheapGo_min _ _ _ _ h1).1
      have m2 := (cheapGo_min _ _ _ _ h2).1
      obtain ⟨t, ht, he⟩ := hback r (cheapGo_in _ h2)
      have a1 := m1 t ht
      have a2 := m2 _ hs'
      rw [rot_price b (fits_rec hl hs).1.len] at a2
      have : bdPrice (rot b l) r = bdPrice l s := by omega
      dsimp only
      rw [this]
set_option maxHeartbeats 4000000 in
theorem lBlendTurned (l : List BdWax) (w : BdWish) (a : Int) (ha : 0 ≤ a ∧ a ≤ 255) : PCall Try.prog 14 [bdWaxes l, w.pv, .int .u8 a] (.bool true) := by
  refine pcall_of_wp draws (fn := Try.f14) (n := 97) (rs := [.tmp 6]) (by kernel_rfl) rfl rfl rfl ok14 (Nat.le_of_ble_eq_true rfl) ?_
  simp (config := { maxSteps := 400000 }) only [go_sem, ↓reduceIte, reduceCtorEq, Nat.reduceEqDiff, Nat.reduceAdd, Nat.reduceLT, Nat.reduceLeDiff, Nat.reduceSub, Int.reduceToNat, Int.reduceLE, Int.reduceLT, Int.reduceNeg, Int.reduceBEq, Int.reduceBNe, Nat.reduceMul, Int.reduceAdd, Int.reduceMul, Int.reduceSub, Int.reduceEq, Int.reduceNe]
  (first | refine WF_pure (cCheapest l w) rfl ?_ | refine WDQ_pure (cCheapest l w) rfl ?_)
  simp (config := { maxSteps := 400000 }) only [bestPV, go_sem, ↓reduceIte, reduceCtorEq, Nat.reduceEqDiff, Nat.reduceAdd, Nat.reduceLT, Nat.reduceLeDiff, Nat.reduceSub, Int.reduceToNat, Int.reduceLE, Int.reduceLT, Int.reduceNeg, Int.reduceBEq, Int.reduceBNe, Nat.reduceMul, Int.reduceAdd, Int.reduceMul, Int.reduceSub, Int.reduceEq, Int.reduceNe]
  (first | refine WF_pure (cRefWish l w) rfl ?_ | refine WDQ_pure (cRefWish l w) rfl ?_)
  simp (config := { maxSteps := 400000 }) only [go_sem, ↓reduceIte, reduceCtorEq, Nat.reduceEqDiff, Nat.reduceAdd, Nat.reduceLT, Nat.reduceLeDiff, Nat.reduceSub, Int.reduceToNat, Int.reduceLE, Int.reduceLT, Int.reduceNeg, Int.reduceBEq, Int.reduceBNe, Nat.reduceMul, Int.reduceAdd, Int.reduceMul, Int.reduceSub, Int.reduceEq, Int.reduceNe]
  refine WB_split (fun he => ?_) (fun he => ?_)
  · have he' : ¬ wishErr l w = 0 := by simpa using he
    have hv : bdCheapest l w = ([], 0, wishErr l w) := by rw [bdCheapest, if_neg he']
    simp (config := { maxSteps := 400000 }) only [hv, he, go_sem, ↓reduceIte, reduceCtorEq, Nat.reduceEqDiff, Nat.reduceAdd, Nat.reduceLT, Nat.reduceLeDiff, Nat.reduceSub, Int.reduceToNat, Int.reduceLE, Int.reduceLT, Int.reduceNeg, Int.reduceBEq, Int.reduceBNe, Nat.reduceMul, Int.reduceAdd, Int.reduceMul, Int.reduceSub, Int.reduceEq, Int.reduceNe]
    (first | refine WF_pure (cAwake) rfl ?_ | refine WDQ_pure (cAwake) rfl ?_)
    simp (config := { maxSteps := 400000 }) only [go_sem, ↓reduceIte, reduceCtorEq, Nat.reduceEqDiff, Nat.reduceAdd, Nat.reduceLT, Nat.reduceLeDiff, Nat.reduceSub, Int.reduceToNat, Int.reduceLE, Int.reduceLT, Int.reduceNeg, Int.reduceBEq, Int.reduceBNe, Nat.reduceMul, Int.reduceAdd, Int.reduceMul, Int.reduceSub, Int.reduceEq, Int.reduceNe]
  have he' : wishErr l w = 0 := by simpa using he
  obtain ⟨hl, hw⟩ := wishOk_of he'
  have hl5 := hl.len
  have hwl := hw.len
  simp (config := { maxSteps := 400000 }) only [go_sem, ↓reduceIte, reduceCtorEq, Nat.reduceEqDiff, Nat.reduceAdd, Nat.reduceLT, Nat.reduceLeDiff, Nat.reduceSub, Int.reduceToNat, Int.reduceLE, Int.reduceLT, Int.reduceNeg, Int.reduceBEq, Int.reduceBNe, Nat.reduceMul, Int.reduceAdd, Int.reduceMul, Int.reduceSub, Int.reduceEq, Int.reduceNe]
  obtain ⟨n, rfl⟩ : ∃ n : Nat, a = n := ⟨a.toNat, by omega⟩
  have hw8 : IntKind.i64.wrap (n : Int) = (n : Int) := wrap_in (by omega) (by omega)
  have hlz : ¬ ((l.length : Nat) : Int) = 0 := by omega
  obtain ⟨b, hbd⟩ : ∃ b, b = n % l.length := ⟨_, rfl⟩
  have hb : b < l.length := by rw [hbd]; exact Nat.mod_lt _ (by omega)
  -- the number of the k-th one
  have hk : ∀ i : Nat, i < l.length → IntKind.i64.wrap ((i : Int) + (n : Int)) = ((i + n : Nat) : Int) ∧ (((i + n : Nat) : Int)).tmod (l.length : Int) = (((i + b) % l.length : Nat) : Int) ∧ ((((i + b) % l.length : Nat) : Int) < (l.length : Int)) := fun i hi => by
    refine ⟨wrap_add (by omega) (by simp [room]; omega) (by omega), ?_, ?_⟩
    · rw [Int.tmod_eq_emod_of_nonneg (by omega), hbd]
      have : (i + n % l.length) % l.length = (i + n) % l.length := by simp
      rw [this]; omega
    · have := Nat.mod_lt (i + b) (show 0 < l.length by omega); omega
  have hget : ∀ i : Nat, i < l.length → ∃ x p, l[(i + b) % l.length]? = some x ∧ w.parts[(i + b) % l.length]? = some p ∧ (rot b l)[i]? = some x ∧ (rot b w.parts)[i]? = some p := fun i hi => by
    have hm := Nat.mod_lt (i + b) (show 0 < l.length by omega)
    have e1 := rot_get (l := l) hb hi
    have e2 := rot_get (l := w.parts) (b := b) (i := i) (by omega) (by omega)
    rw [hwl] at e2
    refine ⟨l[(i + b) % l.length], w.parts[(i + b) % l.length]'(by omega), List.getElem?_eq_getElem hm, List.getElem?_eq_getElem (by omega), ?_, ?_⟩
    · rw [e1]; exact List.getElem?_eq_getElem hm
    · rw [e2]; exact List.getElem?_eq_getElem (by omega)
  refine W_loop_nil 10 7 (by simp (config := { maxSteps := 400000 }) only [go_sem, ↓reduceIte, reduceCtorEq, Nat.reduceEqDiff, Nat.reduceAdd, Nat.reduceLT, Nat.reduceLeDiff, Nat.reduceSub, Int.reduceToNat, Int.reduceLE, Int.reduceLT, Int.reduceNeg, Int.reduceBEq, Int.reduceBNe, Nat.reduceMul, Int.reduceAdd, Int.reduceMul, Int.reduceSub, Int.reduceEq, Int.reduceNe]) ?_
  simp (config := { maxSteps := 400000 }) only [go_sem, ↓reduceIte, reduceCtorEq, Nat.reduceEqDiff, Nat.reduceAdd, Nat.reduceLT, Nat.reduceLeDiff, Nat.reduceSub, Int.reduceToNat, Int.reduceLE, Int.reduceLT, Int.reduceNeg, Int.reduceBEq, Int.reduceBNe, Nat.reduceMul, Int.reduceAdd, Int.reduceMul, Int.reduceSub, Int.reduceEq, Int.reduceNe]
  refine W_loop_nil 11 2 (by simp (config := { maxSteps := 400000 }) only [go_sem, ↓reduceIte, reduceCtorEq, Nat.reduceEqDiff, Nat.reduceAdd, Nat.reduceLT, Nat.reduceLeDiff, Nat.reduceSub, Int.reduceToNat, Int.reduceLE, Int.reduceLT, Int.reduceNeg, Int.reduceBEq, Int.reduceBNe, Nat.reduceMul, Int.reduceAdd, Int.reduceMul, Int.reduceSub, Int.reduceEq, Int.reduceNe]) ?_
  simp (config := { maxSteps := 400000 }) only [go_sem, ↓reduceIte, reduceCtorEq, Nat.reduceEqDiff, Nat.reduceAdd, Nat.reduceLT, Nat.reduceLeDiff, Nat.reduceSub, Int.reduceToNat, Int.reduceLE, Int.reduceLT, Int.reduceNeg, Int.reduceBEq, Int.reduceBNe, Nat.reduceMul, Int.reduceAdd, Int.reduceMul, Int.reduceSub, Int.reduceEq, Int.reduceNe]
  have hzl : ((rot b l).zip (rot b w.parts)).length = l.length := by simp [rot_len, hwl]
  have hz1 : ((rot b l).zip (rot b w.parts)).map (fun q => q.1.pv) = (rot b l).map BdWax.pv := zip_fst BdWax.pv (by simp [rot_len, hwl])
  have hz2 : ((rot b l).zip (rot b w.parts)).map (fun q => q.2.pv) = (rot b w.parts).map Span.pv := zip_snd Span.pv (by simp [rot_len, hwl])
  refine W_rangeA [0, 2, 4, 8, 9] ((rot b l).zip (rot b w.parts)) (by omega) (τ := Unit) (fun _ _ _ => True) (fun done _ => [(12, .p (.int .i64 done.length)), (10, .slice 1 done.length 0 done.length), (11, .slice 2 done.length 0 done.length)])
    (fun done _ => [.row 5 [.p w.pv], .row 7 (done.map fun q => .p q.1.pv), .row 2 (done.map fun q => .p q.2.pv)]) () trivial ?_ ?_ ?_
  · simp (config := { maxSteps := 400000 }) only [go_sem, ↓reduceIte, reduceCtorEq, Nat.reduceEqDiff, Nat.reduceAdd, Nat.reduceLT, Nat.reduceLeDiff, Nat.reduceSub, Int.reduceToNat, Int.reduceLE, Int.reduceLT, Int.reduceNeg, Int.reduceBEq, Int.reduceBNe, Nat.reduceMul, Int.reduceAdd, Int.reduceMul, Int.reduceSub, Int.reduceEq, Int.reduceNe] <;> simp
  · intro _ _
    have g1 : ¬ ((((rot b l).zip (rot b w.parts)).length : Nat) : Int) < (l.length : Int) := by omega
    have hch := rot_cheap hb he'
    have hrl : ((rot b l).length = l.length) := rot_len b l
    simp (config := { maxSteps := 400000 }) only [g1, go_sem, ↓reduceIte, reduceCtorEq, Nat.reduceEqDiff, Nat.reduceAdd, Nat.reduceLT, Nat.reduceLeDiff, Nat.reduceSub, Int.reduceToNat, Int.reduceLE, Int.reduceLT, Int.reduceNeg, Int.reduceBEq, Int.reduceBNe, Nat.reduceMul, Int.reduceAdd, Int.reduceMul, Int.reduceSub, Int.reduceEq, Int.reduceNe]
    refine WF_killK (cCheapest (rot b l) (rotW b w)) (fun i => i == 1 || i == 2) (fun id hid => ?_) ?_ ?_ ?_
    · have : id = 1 ∨ id = 2 := by simpa using hid
      rcases this with rfl | rfl
      · exact ⟨7, (rot b l).map BdWax.pv, by rw [← hz1, List.map_map]; rfl⟩
      · exact ⟨2, (rot b w.parts).map Span.pv, by rw [← hz2, List.map_map]; rfl⟩
    · simp (config := { maxSteps := 400000 }) only [go_sem, ↓reduceIte, reduceCtorEq, Nat.reduceEqDiff, Nat.reduceAdd, Nat.reduceLT, Nat.reduceLeDiff, Nat.reduceSub, Int.reduceToNat, Int.reduceLE, Int.reduceLT, Int.reduceNeg, Int.reduceBEq, Int.reduceBNe, Nat.reduceMul, Int.reduceAdd, Int.reduceMul, Int.reduceSub, Int.reduceEq, Int.reduceNe]
      decide
    · simp only [BdWax.pv] at hz1
      simp only [Span.pv] at hz2
      simp (config := { maxSteps := 400000 }) only [hz1, hz2, rotW, go_sem, ↓reduceIte, reduceCtorEq, Nat.reduceEqDiff, Nat.reduceAdd, Nat.reduceLT, Nat.reduceLeDiff, Nat.reduceSub, Int.reduceToNat, Int.reduceLE, Int.reduceLT, Int.reduceNeg, Int.reduceBEq, Int.reduceBNe, Nat.reduceMul, Int.reduceAdd, Int.reduceMul, Int.reduceSub, Int.reduceEq, Int.reduceNe]
      refine ⟨?_, ?_⟩
      · rw [List.take_of_length_le (by simp [rot_len, hwl])]
      · rw [List.take_of_length_le (by simp [rot_len, hwl])]
    have hrec : (bdCheapest l w).2.2 = 0 → RecOk l.length (bdCheapest (rot b l) (rotW b w)).1 := fun h0 => by
      have h' := rot_wish b he'
      obtain ⟨hl', hw'⟩ := wishOk_of h'
      have h1 : (bdCheapest (rot b l) (rotW b w)).2.2 = 0 := by rw [hch]; exact h0
      rw [best_at h'] at h1 ⊢
      cases hc : cheapGo (bdPrice (rot b l)) none (fits (rot b l) (rotW b w)) with
      | none => rw [hc] at h1; cases h1
      | some r =>
        have := (fits_rec hl' (cheapGo_in _ hc)).1
        rw [rot_len] at this
        exact this
    generalize bdCheapest (rot b l) (rotW b w) = v' at hch hrec
    obtain ⟨r', c', e'⟩ := v'
    generalize bdCheapest l w = v at hch hrec
    obtain ⟨r, c, e⟩ := v
    simp only [Prod.mk.injEq] at hch
    obtain ⟨rfl, rfl⟩ := hch
    simp only [] at hrec
    simp (config := { maxSteps := 400000 }) only [bestPV, bne_self_eq_false, go_sem, ↓reduceIte, reduceCtorEq, Nat.reduceEqDiff, Nat.reduceAdd, Nat.reduceLT, Nat.reduceLeDiff, Nat.reduceSub, Int.reduceToNat, Int.reduceLE, Int.reduceLT, Int.reduceNeg, Int.reduceBEq, Int.reduceBNe, Nat.reduceMul, Int.reduceAdd, Int.reduceMul, Int.reduceSub, Int.reduceEq, Int.reduceNe]
    refine WB_split (fun h0 => ?_) (fun h0 => ?_)
    · simp (config := { maxSteps := 400000 }) only [h0, go_sem, ↓reduceIte, reduceCtorEq, Nat.reduceEqDiff, Nat.reduceAdd, Nat.reduceLT, Nat.reduceLeDiff, Nat.reduceSub, Int.reduceToNat, Int.reduceLE, Int.reduceLT, Int.reduceNeg, Int.reduceBEq, Int.reduceBNe, Nat.reduceMul, Int.reduceAdd, Int.reduceMul, Int.reduceSub, Int.reduceEq, Int.reduceNe]
      (first | refine WF_pure (cAwake) rfl ?_ | refine WDQ_pure (cAwake) rfl ?_)
      simp (config := { maxSteps := 400000 }) only [go_sem, ↓reduceIte, reduceCtorEq, Nat.reduceEqDiff, Nat.reduceAdd, Nat.reduceLT, Nat.reduceLeDiff, Nat.reduceSub, Int.reduceToNat, Int.reduceLE, Int.reduceLT, Int.reduceNeg, Int.reduceBEq, Int.reduceBNe, Nat.reduceMul, Int.reduceAdd, Int.reduceMul, Int.reduceSub, Int.reduceEq, Int.reduceNe]
    · have h0' : e' = 0 := by simpa using h0
      have hr := hrec h0'
      simp (config := { maxSteps := 400000 }) only [h0, go_sem, ↓reduceIte, reduceCtorEq, Nat.reduceEqDiff, Nat.reduceAdd, Nat.reduceLT, Nat.reduceLeDiff, Nat.reduceSub, Int.reduceToNat, Int.reduceLE, Int.reduceLT, Int.reduceNeg, Int.reduceBEq, Int.reduceBNe, Nat.reduceMul, Int.reduceAdd, Int.reduceMul, Int.reduceSub, Int.reduceEq, Int.reduceNe]
      (first | refine WF_pure (cRefRecipe l.length r' false hl.len.2) rfl ?_ | refine WDQ_pure (cRefRecipe l.length r' false hl.len.2) rfl ?_)
      simp (config := { maxSteps := 400000 }) only [recErr_ok hr, go_sem, ↓reduceIte, reduceCtorEq, Nat.reduceEqDiff, Nat.reduceAdd, Nat.reduceLT, Nat.reduceLeDiff, Nat.reduceSub, Int.reduceToNat, Int.reduceLE, Int.reduceLT, Int.reduceNeg, Int.reduceBEq, Int.reduceBNe, Nat.reduceMul, Int.reduceAdd, Int.reduceMul, Int.reduceSub, Int.reduceEq, Int.reduceNe]
      (first | refine WF_pure (cAwake) rfl ?_ | refine WDQ_pure (cAwake) rfl ?_)
      simp (config := { maxSteps := 400000 }) only [go_sem, ↓reduceIte, reduceCtorEq, Nat.reduceEqDiff, Nat.reduceAdd, Nat.reduceLT, Nat.reduceLeDiff, Nat.reduceSub, Int.reduceToNat, Int.reduceLE, Int.reduceLT, Int.reduceNeg, Int.reduceBEq, Int.reduceBNe, Nat.reduceMul, Int.reduceAdd, Int.reduceMul, Int.reduceSub, Int.reduceEq, Int.reduceNe]
  · intro done q rest _ e1 _ hq hlt hnx
    have hdl : done.length < l.length := by omega
    obtain ⟨h1, h2, h3⟩ := hk done.length hdl
    obtain ⟨x, p, g1, g2, g3, g4⟩ := hget done.length hdl
    have hqx : q = (x, p) := by
      have hz : ((rot b l).zip (rot b w.parts))[done.length]? = some (x, p) := List.getElem?_zip_eq_some.2 ⟨g3, g4⟩
      rw [hz] at hq; exact (Option.some.inj hq).symm
    subst hqx
    have h3' : ((((done.length + b) % l.length : Nat) : Int) < (w.parts.length : Int)) := by omega
    have hrm : done.length + 1 ≤ room := by simp [room]; omega
    have hlt' : ((done.length : Nat) : Int) < (l.length : Int) := by omega
    simp (config := { maxSteps := 400000 }) only [hlt', hw8, h1, h2, h3, h3', hlz, g1, g2, hrm, go_sem, ↓reduceIte, reduceCtorEq, Nat.reduceEqDiff, Nat.reduceAdd, Nat.reduceLT, Nat.reduceLeDiff, Nat.reduceSub, Int.reduceToNat, Int.reduceLE, Int.reduceLT, Int.reduceNeg, Int.reduceBEq, Int.reduceBNe, Nat.reduceMul, Int.reduceAdd, Int.reduceMul, Int.reduceSub, Int.reduceEq, Int.reduceNe]
    refine WQ_next e1 () trivial ?_
    simp (config := { maxSteps := 400000 }) only [hnx, List.length_append, List.length_singleton, List.map_append, go_sem, ↓reduceIte, reduceCtorEq, Nat.reduceEqDiff, Nat.reduceAdd, Nat.reduceLT, Nat.reduceLeDiff, Nat.reduceSub, Int.reduceToNat, Int.reduceLE, Int.reduceLT, Int.reduceNeg, Int.reduceBEq, Int.reduceBNe, Nat.reduceMul, Int.reduceAdd, Int.reduceMul, Int.reduceSub, Int.reduceEq, Int.reduceNe]
end Abs
end Go.Proofs.Ythekmbikolpmlaa
