/-
  CONTRACTS: the reference's number, Read, Equal. No conditions but those in the theorems' heads.
-/
import Derived.Test.YtdellinghbppgaaGreatDoorHrRead
namespace Go.Proofs.YtdellinghbppgaaGreatDoor
namespace Abs
set_option linter.unusedSimpArgs false
set_option linter.unusedVariables false
set_option maxRecDepth 4000

/-! numbers -/
def numR (l : List UInt8) : Int := if gIn (l.length : Int) 1 8 = true then (match Lib.decFrom 0 l with | some n => (n : Int) | none => -1) else -1
theorem cNumR (l : List UInt8) : PCall Tryz.prog 66 [.str (bs l)] (.int .i64 (numR l)) := by
  refine pcall_of_wp draws (fn := Tryz.f66) (n := 30) (rs := [.tmp 2]) (by kernel_rfl) rfl rfl rfl ok66 (Nat.le_of_ble_eq_true rfl) ?_
  have hsz : ((bs l).size : Int) = (l.length : Int) := by rw [bs_size]
  simp (maxSteps := 400000) only [hsz, go_sem, simprocAttr]
  refine WF_pure (cIn3 _ _ _) rfl ?_
  simp (maxSteps := 400000) only [go_sem, simprocAttr]
  cases h1 : gIn (l.length : Int) 1 8
  · simp (maxSteps := 400000) only [numR, h1, go_sem, simprocAttr]
  have hl : l.length ≤ 8 := by simp [gIn] at h1; omega
  simp (maxSteps := 400000) only [go_sem, simprocAttr]
  refine W_loopH [0] (σ := List UInt8 × List UInt8 × Nat) (fun q => l = q.1 ++ q.2.1 ∧ Lib.decFrom 0 l = Lib.decFrom q.2.2 q.2.1 ∧ q.2.2 < 10 ^ q.1.length) (fun q => q.2.1.length)
    (fun q => [(3, .p (.int .i64 q.2.2)), (4, .p (.int .i64 q.1.length))]) ([], l, 0) ⟨rfl, rfl, by simp⟩ ?_ ?_
  · simp (maxSteps := 400000) only [go_sem, simprocAttr]
  rintro ⟨done, rest, acc⟩ ⟨e1, e2, e3⟩
  dsimp only at e1 e2 e3
  cases rest with
  | nil =>
    have hlt : ¬ ((done.length : Int) < (l.length : Int)) := by rw [e1]; simp
    have hf : Lib.decFrom 0 l = some acc := by rw [e2]; rfl
    simp (maxSteps := 400000) only [hsz, hlt, decide_false, numR, h1, hf, go_sem, simprocAttr]
  | cons b r =>
    obtain ⟨hx, hlt⟩ := list_at e1
    have hlen := congrArg List.length e1
    simp only [List.length_append, List.length_cons] at hlen
    have hxb : (bs l)[done.length]? = some b := by rw [bs_get]; exact hx
    have hnx : IntKind.i64.wrap ((done.length : Int) + 1) = (((done ++ [b]).length : Nat) : Int) := wrap_add (by omega) (by simp [room]; omega) (by simp)
    have hb : b.toNat < 256 := b.toNat_lt
    have hcv : IntKind.i64.wrap ((b.toNat : Nat) : Int) = ((b.toNat : Nat) : Int) := wrap_in (by omega) (by omega)
    have hlt' : decide ((done.length : Int) < (l.length : Int)) = true := by simpa using hlt
    simp (maxSteps := 400000) only [hsz, hlt, hlt', hxb, hcv, go_sem, simprocAttr]
    refine WF_pure (cIn3 _ _ _) rfl ?_
    simp (maxSteps := 400000) only [go_sem, simprocAttr]
    rw [Lib.decFrom] at e2
    cases h2 : gIn ((b.toNat : Nat) : Int) 48 57
    · have hd : Lib.digitVal b = none := by
        rw [Lib.digitVal, if_neg]
        intro h; simp [gIn] at h2; omega
      have hf : Lib.decFrom 0 l = none := by rw [e2, hd]
      simp (maxSteps := 400000) only [numR, h1, hf, go_sem, simprocAttr]
    · have hd : Lib.digitVal b = some (b.toNat - 48) := by
        rw [Lib.digitVal, if_pos]
        simp [gIn] at h2; omega
      rw [hd] at e2
      have h2' : 48 ≤ b.toNat ∧ b.toNat ≤ 57 := by simp [gIn] at h2; omega
      have hp : 10 ^ done.length ≤ 10 ^ 7 := Nat.pow_le_pow_right (by omega) (by omega)
      have hp' : (10 : Nat) ^ 7 = 10000000 := rfl
      have w1 : IntKind.i64.wrap (10 * (acc : Int)) = 10 * (acc : Int) := wrap_in (by omega) (by omega)
      have w2 : IntKind.u8.wrap (((b.toNat : Nat) : Int) - 48) = ((b.toNat - 48 : Nat) : Int) := by
        simp [IntKind.wrap, IntKind.signed, IntKind.bits]; omega
      have w3 : IntKind.i64.wrap (((b.toNat - 48 : Nat) : Int)) = ((b.toNat - 48 : Nat) : Int) := wrap_in (by omega) (by omega)
      have w4 : IntKind.i64.wrap (10 * (acc : Int) + ((b.toNat - 48 : Nat) : Int)) = ((acc * 10 + (b.toNat - 48) : Nat) : Int) := by
        rw [wrap_in (by omega) (by omega)]; simp; omega
      simp (maxSteps := 400000) only [hsz, hlt, hlt', hxb, w1, w2, w3, w4, go_sem, simprocAttr]
      refine WQ_headA (done ++ [b], r, acc * 10 + (b.toNat - 48)) ⟨by rw [e1]; simp, e2, ?_⟩ (Nat.lt_succ_self _) ?_
      · show acc * 10 + (b.toNat - 48) < 10 ^ (done ++ [b]).length
        rw [List.length_append, List.length_singleton, Nat.pow_succ]
        omega
      simp (maxSteps := 400000) only [hnx, go_sem, simprocAttr]

/-! two tests -/
def eqT (a b : HrTest) : Bool := (a.kind == b.kind) && (a.error == b.error) && decide (a.marks = b.marks)
theorem eqT_iff (a b : HrTest) : eqT a b = true ↔ a = b := by
  cases a; cases b
  simp [eqT, and_assoc]
theorem mark_eq (x y : HrMark) : ((x.minute == y.minute) && (x.weight == y.weight)) = decide (x = y) := by
  cases x; cases y
  rw [Bool.eq_iff_iff]; simp
theorem cEqual (a b : HrTest) (ha : a.marks.length < 1000000000) : PCall Tryz.prog 21 [a.pv, b.pv] (.bool (eqT a b)) := by
  refine pcall_of_wp draws (fn := Tryz.f21) (n := 45) (rs := [.tmp 4]) (by kernel_rfl) rfl rfl rfl ok21 (Nat.le_of_ble_eq_true rfl) ?_
  simp (maxSteps := 400000) only [go_sem, simprocAttr]
  cases h1 : (a.kind != b.kind)
  rotate_left
  · have h1' : (a.kind == b.kind) = false := by simpa [bne] using h1
    simp (maxSteps := 400000) only [eqT, h1', go_sem, simprocAttr]
  have h1' : (a.kind == b.kind) = true := by simpa [bne] using h1
  simp (maxSteps := 400000) only [go_sem, simprocAttr]
  cases h2 : (a.error != b.error)
  rotate_left
  · have h2' : (a.error == b.error) = false := by simpa [bne] using h2
    simp (maxSteps := 400000) only [eqT, h1', h2', go_sem, simprocAttr]
  have h2' : (a.error == b.error) = true := by simpa [bne] using h2
  simp (maxSteps := 400000) only [go_sem, simprocAttr]
  cases h3 : ((a.marks.length : Int) != (b.marks.length : Int))
  rotate_left
  · have h3' : ¬ a.marks = b.marks := by
      intro h; rw [h] at h3; simp at h3
    simp (maxSteps := 400000) only [eqT, h1', h2', h3', decide_false, go_sem, simprocAttr]
  have h3' : a.marks.length = b.marks.length := by
    have : ((a.marks.length : Int)) = (b.marks.length : Int) := by simpa using h3
    omega
  have hsp : eqT a b = decide (a.marks = b.marks) := by rw [eqT, h1', h2']; rfl
  rw [hsp]
  simp (maxSteps := 400000) only [go_sem, simprocAttr]
  refine W_loopA [2, 3] (σ := List HrMark × List HrMark × List HrMark) (fun q => a.marks = q.1 ++ q.2.1 ∧ b.marks = q.1 ++ q.2.2) (fun q => q.2.1.length)
    (fun q => [(5, .p (.int .i64 q.1.length))]) (fun _ => [.row 3 [.p a.pv], .row 3 [.p b.pv]]) ([], a.marks, b.marks) ⟨rfl, rfl⟩ ?_ ?_
  · simp (maxSteps := 400000) only [go_sem, simprocAttr]
  rintro ⟨done, ra, rb⟩ ⟨e1, e2⟩
  dsimp only at e1 e2
  have hl1 := congrArg List.length e1
  have hl2 := congrArg List.length e2
  simp only [List.length_append] at hl1 hl2
  cases ra with
  | nil =>
    have hrb : rb = [] := by
      have : rb.length = 0 := by simp at hl1; omega
      exact List.length_eq_zero_iff.1 this
    have hlt : ¬ ((done.length : Int) < (a.marks.length : Int)) := by rw [e1]; simp
    have he : a.marks = b.marks := by rw [e1, e2, hrb]
    have hltb : ¬ ((done.length : Int) < (b.marks.length : Int)) := by rw [e2, hrb]; simp
    rw [show decide (a.marks = b.marks) = true by simpa using he]
    simp (maxSteps := 400000) only [hlt, hltb, decide_false, go_sem, simprocAttr]
  | cons x ra =>
    cases rb with
    | nil => simp at hl1 hl2; omega
    | cons y rb =>
      obtain ⟨hx, hlt⟩ := list_at e1
      obtain ⟨hy, hlt2⟩ := list_at e2
      have hnx : IntKind.i64.wrap ((done.length : Int) + 1) = (((done ++ [x]).length : Nat) : Int) := wrap_add (by omega) (by simp [room]; omega) (by simp)
      simp (maxSteps := 400000) only [hlt, decide_true, hx, hy, hlt2, mark_eq, go_sem, simprocAttr]
      cases h4 : decide (x = y)
      · have h4' : ¬ x = y := by simpa using h4
        have he : ¬ a.marks = b.marks := by
          rw [e1, e2]; intro h
          have := List.append_cancel_left h
          exact h4' (List.cons.inj this).1
        rw [show decide (a.marks = b.marks) = false by simpa using he]
        simp (maxSteps := 400000) only [go_sem, simprocAttr]
      · have h4' : x = y := by simpa using h4
        subst h4'
        simp (maxSteps := 400000) only [go_sem, simprocAttr]
        refine WQ_headA (done ++ [x], ra, rb) ⟨by rw [e1]; simp, by rw [e2]; simp⟩ (Nat.lt_succ_self _) ?_
        simp (maxSteps := 400000) only [hnx, go_sem, simprocAttr]

theorem PCall.arglessD {P : Program} {f : FuncId} {args args' : List PV} {v : PV} (hc : PCall P f args v) (h : PLs args' args) : PCall P f args' v := by
  intro M0 w cargs hM hg ha
  obtain ⟨h1, h2⟩ := h.get
  refine hc M0 w cargs hM hg ⟨by rw [ha.1, h1], fun i c hi => ?_⟩
  obtain ⟨q, hq⟩ : ∃ q, args'[i]? = some q := ⟨_, List.getElem?_eq_getElem (by rw [h1]; exact (List.getElem?_eq_some_iff.1 hi).1)⟩
  exact (h2 i q c hq hi).rep (ha.2 i q hq)
theorem nilTest (k e : Int) : PL (.agg [.int .i64 k, .int .i64 e, .nilslice]) (HrTest.pv ⟨k, e, []⟩) := .aggL rfl ⟨.refl _, .refl _, .nil 2, trivial⟩
/-! Read -/
def lastIdx (nm : ByteArray) : List HrKind → Nat → Int → Int
  | [], _, acc => acc
  | k :: r, i, acc => lastIdx nm r (i + 1) (if k.name == nm then (i : Int) else acc)
def stepR (s : HrShop) (first : Bool) (t : HrTest) (p : List UInt8) : HrTest :=
  match first, splitL 32 p with
  | true, [_, w1, w2] => ⟨lastIdx (bs w1) s.kinds 0 t.kind, numR w2, t.marks⟩
  | false, [w0, w1] => ⟨t.kind, t.error, t.marks ++ [⟨numR w0, numR w1⟩]⟩
  | _, _ => t
def rowsR (s : HrShop) : Bool → HrTest → List (List UInt8) → HrTest
  | _, t, [] => t
  | _, t, [_] => t
  | f, t, p :: q :: r => rowsR s false (stepR s f t p) (q :: r)
def parseR (s : HrShop) (all : List UInt8) : HrTest := rowsR s true ⟨-1, 0, []⟩ (splitL 10 all)
def hrReadR (s : HrShop) (all : List UInt8) : HrTest × Int :=
  if (hrCheck s).2.2 = 0 then
    if 300 < all.length then (zeroTest, 3) else if goodT s all (parseR s all) = true then (parseR s all, 0) else (zeroTest, 6)
  else (zeroTest, (hrCheck s).2.2)
def tRowR (t : HrTest) : AObj := match t.marks with | [] => .row 3 [.p (.agg [.int .i64 t.kind, .int .i64 t.error, .nilslice])] | m :: r => .row 3 [.agg [.p (.int .i64 t.kind), .p (.int .i64 t.error), .slice 3 (m :: r).length 0 (m :: r).length]]
def refHp (s : HrShop) (t : HrTest) : Heap := [.row 3 [.p s.pv], .row 3 [.p (.agg [.int .i64 0, .int .i64 0, .nilslice])], tRowR t] ++ mRows t.marks
set_option maxHeartbeats 4000000 in
theorem cRefRead0 (s : HrShop) (all : List UInt8) : PCall Tryz.prog 20 [s.pv, .str (bs all)] (.tuple [readPV (hrReadR s all).1, .int .i64 (hrReadR s all).2]) := by
  refine pcall_of_wp_frz draws (fn := Tryz.f20) (n := 111) (rs := [.cell 4 33, .tmp 5]) (by kernel_rfl) rfl rfl rfl ok20 (Nat.le_of_ble_eq_true rfl) ?_
  simp (maxSteps := 400000) only [go_sem, simprocAttr]
  refine WF_pure (cRefHrCheck s) rfl ?_
  simp (maxSteps := 400000) only [triple, go_sem, simprocAttr]
  cases h0 : ((hrCheck s).2.2 == 0)
  · have h0' : ¬ (hrCheck s).2.2 = 0 := by simpa using h0
    have hsp : hrReadR s all = (zeroTest, (hrCheck s).2.2) := by rw [hrReadR, if_neg h0']
    have h0n : ((hrCheck s).2.2 != 0) = true := by simpa using h0'
    rw [hsp]
    simp (maxSteps := 400000) only [h0n, readPV, zeroTest, go_sem, simprocAttr]
  have h0' : (hrCheck s).2.2 = 0 := by simpa using h0
  have hkk := hrCheck_kinds h0'
  have hsz : ((bs all).size : Int) = (all.length : Int) := by rw [bs_size]
  simp (maxSteps := 400000) only [hsz, go_sem, simprocAttr]
  cases h3 : decide ((300 : Int) < (all.length : Int))
  rotate_left
  · have h3' : 300 < all.length := by simp at h3; omega
    have hsp : hrReadR s all = (zeroTest, 3) := by rw [hrReadR, if_pos h0', if_pos h3']
    rw [hsp]
    simp (maxSteps := 400000) only [readPV, zeroTest, go_sem, simprocAttr]
  have h3' : ¬ 300 < all.length := by simp at h3; omega
  have hsp : hrReadR s all = if goodT s all (parseR s all) = true then (parseR s all, 0) else (zeroTest, 6) := by rw [hrReadR, if_pos h0', if_neg h3']
  rw [hsp]
  have c10 : PV.int .u8 10 = .int .u8 ((10 : UInt8).toNat : Int) := rfl
  have c32 : PV.int .u8 32 = .int .u8 ((32 : UInt8).toNat : Int) := rfl
  simp (maxSteps := 400000) only [h0', go_sem, simprocAttr]
  refine WF_pure (cRefSplit all 10 (by omega)) rfl ?_
  have hrl := splitL_le 10 all
  have hrp := splitL_pos 10 all
  have hlen := split_len 10 all
  have hpar : parseR s all = rowsR s true ⟨-1, 0, []⟩ (splitL 10 all) := rfl
  generalize splitL 10 all = rows at hrl hrp hlen hpar
  simp (maxSteps := 400000) only [strsPV, go_sem, simprocAttr]
  refine W_loopK [1, 2, 4, 9, 10] (σ := List (List UInt8) × List (List UInt8) × HrTest)
    (fun q => rows = q.1 ++ q.2.1 ∧ q.2.1 ≠ [] ∧ parseR s all = rowsR s (q.1.length == 0) q.2.2 q.2.1 ∧ q.2.2.marks.length ≤ q.1.length) (fun q => q.2.1.length)
    (fun q => [(11, .p (.int .i64 q.1.length))]) (fun q => refHp s q.2.2) ([], rows, ⟨-1, 0, []⟩) ⟨rfl, by intro h; dsimp only at h; rw [h] at hrp; simp at hrp, hpar, Nat.le_refl _⟩ (by simp (maxSteps := 400000) only [refHp, tRowR, mRows, go_sem, simprocAttr]) ?_ ?_
  · simp (maxSteps := 400000) only [go_sem, simprocAttr]
  rintro ⟨done, rest, t⟩ ⟨e1, e2, e3, e4⟩
  dsimp only at e1 e2 e3 e4
  have hlr := congrArg List.length e1
  simp only [List.length_append] at hlr
  have hnx0 : ∀ (p : List UInt8), IntKind.i64.wrap ((done.length : Int) + 1) = (((done ++ [p]).length : Nat) : Int) := fun p => wrap_add (by omega) (by simp [room]; omega) (by simp)
  match rest, e2 with
  | [last], _ =>
    have hnlt : decide ((((done ++ [last]).length : Nat) : Int) < (rows.length : Int)) = false := by simp at hlr ⊢; omega
    rw [rowsR] at e3
    rw [e3]
    obtain ⟨kd, er, ms⟩ := t
    cases ms with
    | nil =>
      simp (maxSteps := 400000) only [hnx0 last, hnlt, refHp, tRowR, mRows, go_sem, simprocAttr]
      refine WF_pure ((cRefHrTest s ⟨kd, er, []⟩ (by omega)).arglessD (args' := [s.pv, .agg [.int .i64 kd, .int .i64 er, .nilslice]]) ⟨.refl _, nilTest kd er, trivial⟩) rfl ?_
      simp (maxSteps := 400000) only [go_sem, simprocAttr]
      have hte : (hrTestErr s.kinds.length ⟨kd, er, []⟩ != 0) = true := by
        simp only [hrTestErr]
        split <;> simp [gIn]
      have hg : goodT s all ⟨kd, er, []⟩ = false := by
        rw [goodT, show (hrTestErr s.kinds.length ⟨kd, er, []⟩ == 0) = false by simpa [bne] using hte]; rfl
      simp (maxSteps := 400000) only [hte, hg, readPV, zeroTest, go_sem, simprocAttr]
    | cons m0 ms =>
      have hfz : ∀ n h, frzList (frzN n h) (ms.map markC) = some (ms.map HrMark.pv) := fun n h => frzList_map (frzN_p n h) HrMark.pv ms
      have htk : List.take (ms.length + 1) (.agg [.int .i64 m0.minute, .int .i64 m0.weight] :: List.map HrMark.pv ms) = .agg [.int .i64 m0.minute, .int .i64 m0.weight] :: List.map HrMark.pv ms := List.take_of_length_le (by simp)
      simp (maxSteps := 400000) only [hnx0 last, hnlt, refHp, tRowR, mRows, go_sem, simprocAttr]
      refine WF_frz (cRefHrTest s ⟨kd, er, m0 :: ms⟩ (by omega)) ?_ (.int _ _) ?_
      · simp (maxSteps := 400000) only [hfz, htk, go_sem, simprocAttr]
      simp (maxSteps := 400000) only [go_sem, simprocAttr]
      cases hte : (hrTestErr s.kinds.length ⟨kd, er, m0 :: ms⟩ != 0)
      rotate_left
      · have hg : goodT s all ⟨kd, er, m0 :: ms⟩ = false := by
          rw [goodT, show (hrTestErr s.kinds.length ⟨kd, er, m0 :: ms⟩ == 0) = false by simpa [bne] using hte]; rfl
        simp (maxSteps := 400000) only [hg, readPV, zeroTest, go_sem, simprocAttr]
      have hte' : hrTestErr s.kinds.length ⟨kd, er, m0 :: ms⟩ = 0 := by simpa using hte
      simp (maxSteps := 400000) only [go_sem, simprocAttr]
      refine WF_frz (cRefText s ⟨kd, er, m0 :: ms⟩ h0' hte') ?_ (.str _) ?_
      · simp (maxSteps := 400000) only [hfz, htk, go_sem, simprocAttr]
      simp (maxSteps := 400000) only [bs_beq, go_sem, simprocAttr]
      have hg : goodT s all ⟨kd, er, m0 :: ms⟩ = (textL s ⟨kd, er, m0 :: ms⟩ == all) := by
        rw [goodT, show (hrTestErr s.kinds.length ⟨kd, er, m0 :: ms⟩ == 0) = true by simpa [bne] using hte]; rfl
      cases htx : (textL s ⟨kd, er, m0 :: ms⟩ == all)
      · rw [htx] at hg
        simp (maxSteps := 400000) only [hg, readPV, zeroTest, go_sem, simprocAttr]
      · rw [htx] at hg
        simp (maxSteps := 400000) only [hg, readPV, hfz, htk, go_sem, simprocAttr]
  | p :: q :: r, _ =>
    obtain ⟨hx, hlt⟩ := list_at e1
    simp only [List.length_cons] at hlr
    have hlt1 : decide ((((done ++ [p]).length : Nat) : Int) < (rows.length : Int)) = true := by simp; omega
    have hpl := hlen p (by rw [e1]; simp)
    have hnext : rows = (done ++ [p]) ++ (q :: r) := by rw [e1]; simp
    have hd0 : ((done ++ [p]).length == 0) = false := by simp
    rw [show rowsR s (done.length == 0) t (p :: q :: r) = rowsR s false (stepR s (done.length == 0) t p) (q :: r) from rfl, ← hd0] at e3
    have keep : ∀ t', stepR s (done.length == 0) t p = t' → t'.marks.length ≤ done.length + 1 → rows = (done ++ [p]) ++ (q :: r) ∧ q :: r ≠ [] ∧ parseR s all = rowsR s ((done ++ [p]).length == 0) t' (q :: r) ∧ t'.marks.length ≤ (done ++ [p]).length := fun t' h1 h2 =>
      ⟨hnext, by simp, by rw [e3, h1], by rw [List.length_append, List.length_singleton]; exact h2⟩
    obtain ⟨kd, er, ms⟩ := t
    dsimp only at e4
    by_cases hz : done.length = 0
    · have hms : ms = [] := List.length_eq_zero_iff.1 (by omega)
      subst hms
      have z1 : ((done.length : Int) == 0) = true := by simp [hz]
      have z2 : decide ((0 : Int) < (done.length : Int)) = false := by simp [hz]
      have z3 : (done.length == 0) = true := by simp [hz]
      rw [z3] at keep
      simp (maxSteps := 400000) only [hnx0 p, hlt1, refHp, tRowR, mRows, hx, hlt, go_sem, simprocAttr]
      refine WF_pure (cRefSplit p 32 (by omega)) rfl ?_
      cases h5 : (((splitL 32 p).length : Int) == 3)
      · have hst : stepR s true ⟨kd, er, []⟩ p = ⟨kd, er, []⟩ := by
          unfold stepR
          split
          · rename_i hw; rw [hw] at h5; cases h5
          · rename_i hf _; cases hf
          · rfl
        simp (maxSteps := 400000) only [strsPV, z1, z2, h5, go_sem, simprocAttr]
        refine WQ_headK (done ++ [p], q :: r, ⟨kd, er, []⟩) (keep _ hst (by simp)) (by simp) (by simp (maxSteps := 400000) only [refHp, tRowR, mRows, go_sem, simprocAttr]) ?_
        simp (maxSteps := 400000) only [hnx0 p, go_sem, simprocAttr]
      · obtain ⟨w0, w1, w2, hw⟩ : ∃ w0 w1 w2, splitL 32 p = [w0, w1, w2] := by
          have hl0 : ((splitL 32 p).length : Int) = 3 := by simpa using h5
          have hl : (splitL 32 p).length = 3 := by omega
          match h : splitL 32 p, hl with
          | [a, b, c], _ => exact ⟨a, b, c, rfl⟩
        have hst : stepR s true ⟨kd, er, []⟩ p = ⟨lastIdx (bs w1) s.kinds 0 kd, numR w2, []⟩ := by simp only [stepR, hw]
        simp (maxSteps := 400000) only [strsPV, z1, z2, hw, List.map_cons, List.map_nil, go_sem, simprocAttr]
        refine WF_pure (cNumR w2) rfl ?_
        simp (maxSteps := 400000) only [go_sem, simprocAttr]
        refine W_loopK [1, 2, 4, 9, 10, 11, 12] (σ := List HrKind × List HrKind × Int)
          (fun q => s.kinds = q.1 ++ q.2.1 ∧ lastIdx (bs w1) s.kinds 0 kd = lastIdx (bs w1) q.2.1 q.1.length q.2.2) (fun q => q.2.1.length)
          (fun q => [(13, .p (.int .i64 q.1.length))]) (fun q => refHp s ⟨q.2.2, numR w2, []⟩) ([], s.kinds, kd) ⟨rfl, rfl⟩ (by simp (maxSteps := 400000) only [refHp, tRowR, mRows, go_sem, simprocAttr]) ?_ ?_
        · simp (maxSteps := 400000) only [go_sem, simprocAttr]
        rintro ⟨dk, rk, acc⟩ ⟨f1, f2⟩
        dsimp only at f1 f2
        cases rk with
        | nil =>
          have hltk : ¬ ((dk.length : Int) < (s.kinds.length : Int)) := by rw [f1]; simp
          rw [lastIdx] at f2
          rw [f2] at hst
          simp (maxSteps := 400000) only [hltk, decide_false, refHp, tRowR, mRows, z2, go_sem, simprocAttr]
          refine WQ_headK (done ++ [p], q :: r, ⟨acc, numR w2, []⟩) (keep _ hst (by simp)) (by simp) (by simp (maxSteps := 400000) only [refHp, tRowR, mRows, go_sem, simprocAttr]) ?_
          simp (maxSteps := 400000) only [hnx0 p, go_sem, simprocAttr]
        | cons k rk =>
          obtain ⟨hxk, hltk⟩ := list_at f1
          have hlk := congrArg List.length f1
          simp only [List.length_append, List.length_cons] at hlk
          have hnk : IntKind.i64.wrap ((dk.length : Int) + 1) = (((dk ++ [k]).length : Nat) : Int) := wrap_add (by omega) (by simp [room]; omega) (by simp)
          have hdk : (dk ++ [k]).length = dk.length + 1 := by simp
          rw [lastIdx] at f2
          simp (maxSteps := 400000) only [hltk, decide_true, refHp, tRowR, mRows, hxk, go_sem, simprocAttr]
          cases hk : (k.name == bs w1)
          · rw [hk] at f2
            simp (maxSteps := 400000) only [go_sem, simprocAttr]
            refine WQ_headK (dk ++ [k], rk, acc) ⟨by rw [f1]; simp, by rw [f2, hdk]; rfl⟩ (Nat.lt_succ_self _) (by simp (maxSteps := 400000) only [refHp, tRowR, mRows, go_sem, simprocAttr]) ?_
            simp (maxSteps := 400000) only [hnk, go_sem, simprocAttr]
          · rw [hk] at f2
            simp (maxSteps := 400000) only [go_sem, simprocAttr]
            refine WQ_headK (dk ++ [k], rk, (dk.length : Int)) ⟨by rw [f1]; simp, by rw [f2, hdk]; rfl⟩ (Nat.lt_succ_self _) (by simp (maxSteps := 400000) only [refHp, tRowR, mRows, go_sem, simprocAttr]) ?_
            simp (maxSteps := 400000) only [hnk, go_sem, simprocAttr]
    · have z1 : ((done.length : Int) == 0) = false := by rw [beq_eq_false_iff_ne]; omega
      have z2 : decide ((0 : Int) < (done.length : Int)) = true := by rw [decide_eq_true_eq]; omega
      have z3 : (done.length == 0) = false := by rw [beq_eq_false_iff_ne]; omega
      rw [z3] at keep
      have hdl : done.length ≤ 301 := by omega
      cases ms with
      | nil =>
        have hrm : (1 : Nat) ≤ room := by simp [room]
        simp (maxSteps := 400000) only [hnx0 p, hlt1, refHp, tRowR, mRows, hx, hlt, go_sem, simprocAttr]
        refine WF_pure (cRefSplit p 32 (by omega)) rfl ?_
        cases h5 : (((splitL 32 p).length : Int) == 2)
        · have hst : stepR s false ⟨kd, er, []⟩ p = ⟨kd, er, []⟩ := by
            unfold stepR
            split
            · rename_i hf _; cases hf
            · rename_i hw; rw [hw] at h5; cases h5
            · rfl
          simp (maxSteps := 400000) only [strsPV, z1, z2, h5, go_sem, simprocAttr]
          refine WQ_headK (done ++ [p], q :: r, ⟨kd, er, []⟩) (keep _ hst (by simp)) (by simp) (by simp (maxSteps := 400000) only [refHp, tRowR, mRows, go_sem, simprocAttr]) ?_
          simp (maxSteps := 400000) only [hnx0 p, go_sem, simprocAttr]
        · obtain ⟨w0, w1, hw⟩ : ∃ w0 w1, splitL 32 p = [w0, w1] := by
            have hl0 : ((splitL 32 p).length : Int) = 2 := by simpa using h5
            have hl : (splitL 32 p).length = 2 := by omega
            match h : splitL 32 p, hl with
            | [a, b], _ => exact ⟨a, b, rfl⟩
          have hst : stepR s false ⟨kd, er, []⟩ p = ⟨kd, er, [] ++ [⟨numR w0, numR w1⟩]⟩ := by simp only [stepR, hw]
          simp (maxSteps := 400000) only [strsPV, z1, z2, hw, List.map_cons, List.map_nil, go_sem, simprocAttr]
          refine WDQ_pure (cNumR w0) rfl ?_
          simp (maxSteps := 400000) only [go_sem, simprocAttr]
          refine WDQ_pure (cNumR w1) rfl ?_
          simp (maxSteps := 400000) only [hrm, go_sem, simprocAttr]
          refine WQ_headK (done ++ [p], q :: r, ⟨kd, er, [] ++ [⟨numR w0, numR w1⟩]⟩) (keep _ hst (by simp)) (by simp) (by simp (maxSteps := 400000) only [refHp, tRowR, mRows, go_sem, simprocAttr]) ?_
          simp (maxSteps := 400000) only [hnx0 p, go_sem, simprocAttr]
      | cons m0 ms =>
        simp only [List.length_cons] at e4
        have hrm : ms.length + 1 + 1 ≤ room := by simp [room]; omega
        simp (maxSteps := 400000) only [hnx0 p, hlt1, refHp, tRowR, mRows, hx, hlt, go_sem, simprocAttr]
        refine WF_pure (cRefSplit p 32 (by omega)) rfl ?_
        cases h5 : (((splitL 32 p).length : Int) == 2)
        · have hst : stepR s false ⟨kd, er, m0 :: ms⟩ p = ⟨kd, er, m0 :: ms⟩ := by
            unfold stepR
            split
            · rename_i hf _; cases hf
            · rename_i hw; rw [hw] at h5; cases h5
            · rfl
          simp (maxSteps := 400000) only [strsPV, z1, z2, h5, go_sem, simprocAttr]
          refine WQ_headK (done ++ [p], q :: r, ⟨kd, er, m0 :: ms⟩) (keep _ hst (by simp; omega)) (by simp) (by simp (maxSteps := 400000) only [refHp, tRowR, mRows, go_sem, simprocAttr]) ?_
          simp (maxSteps := 400000) only [hnx0 p, go_sem, simprocAttr]
        · obtain ⟨w0, w1, hw⟩ : ∃ w0 w1, splitL 32 p = [w0, w1] := by
            have hl0 : ((splitL 32 p).length : Int) = 2 := by simpa using h5
            have hl : (splitL 32 p).length = 2 := by omega
            match h : splitL 32 p, hl with
            | [a, b], _ => exact ⟨a, b, rfl⟩
          have hst : stepR s false ⟨kd, er, m0 :: ms⟩ p = ⟨kd, er, m0 :: (ms ++ [⟨numR w0, numR w1⟩])⟩ := by simp only [stepR, hw, List.cons_append]
          simp (maxSteps := 400000) only [strsPV, z1, z2, hw, List.map_cons, List.map_nil, go_sem, simprocAttr]
          refine WDQ_pure (cNumR w0) rfl ?_
          simp (maxSteps := 400000) only [go_sem, simprocAttr]
          refine WDQ_pure (cNumR w1) rfl ?_
          simp (maxSteps := 400000) only [hrm, go_sem, simprocAttr]
          refine WQ_headK (done ++ [p], q :: r, ⟨kd, er, m0 :: (ms ++ [⟨numR w0, numR w1⟩])⟩) (keep _ hst (by simp; omega)) (by simp) (by simp (maxSteps := 400000) only [refHp, tRowR, mRows, List.map_append, List.length_append, go_sem, simprocAttr]) ?_
          simp (maxSteps := 400000) only [hnx0 p, go_sem, simprocAttr]
end Abs
end Go.Proofs.YtdellinghbppgaaGreatDoor
