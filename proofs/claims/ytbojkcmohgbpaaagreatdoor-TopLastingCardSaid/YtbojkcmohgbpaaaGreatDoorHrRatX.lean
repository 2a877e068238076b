/-
  CONTRACTS: Rate; ref.Possible. No conditions but those in the theorems' heads.
  CONTRACTS: marks that are odd; a test without a mark. No conditions but those in the theorems' heads.
-/
import Derived.Test.YtbojkcmohgbpaaaGreatDoorHrFrac
namespace Go.Proofs.YtbojkcmohgbpaaaGreatDoor
namespace Abs
set_option linter.unusedSimpArgs false
set_option linter.unusedVariables false
set_option maxRecDepth 4000
def Frac.le (f g : Frac) : Prop := f.top * g.below ≤ g.top * f.below
theorem Frac.lt_iff (f g : Frac) : f.lt g = true ↔ ¬ g.le f := by
  simp only [Frac.lt, Frac.le, decide_eq_true_eq]; omega
theorem Frac.lt_false (f g : Frac) : f.lt g = false ↔ g.le f := by
  simp only [Frac.lt, Frac.le, decide_eq_false_iff_not]; omega
theorem Frac.le_refl (f : Frac) : f.le f := Int.le_refl _
theorem Frac.le_total (f g : Frac) : f.le g ∨ g.le f := by simp only [Frac.le]; omega
theorem Frac.le_trans {f g h : Frac} (hf : 0 < f.below) (hg : 0 < g.below) (hh : 0 < h.below) (h1 : f.le g) (h2 : g.le h) : f.le h := by
  unfold Frac.le at *
  have e1 : f.top * g.below * h.below ≤ g.top * f.below * h.below := Int.mul_le_mul_of_nonneg_right h1 (Int.le_of_lt hh)
  have e2 : g.top * h.below * f.below ≤ h.top * g.below * f.below := Int.mul_le_mul_of_nonneg_right h2 (Int.le_of_lt hf)
  have e3 : f.top * h.below * g.below ≤ h.top * f.below * g.below := by
    have a1 : f.top * h.below * g.below = f.top * g.below * h.below := by rw [Int.mul_assoc, Int.mul_comm h.below, ← Int.mul_assoc]
    have a2 : g.top * f.below * h.below = g.top * h.below * f.below := by rw [Int.mul_assoc, Int.mul_comm f.below, ← Int.mul_assoc]
    have a3 : h.top * f.below * g.below = h.top * g.below * f.below := by rw [Int.mul_assoc, Int.mul_comm f.below, ← Int.mul_assoc]
    omega
  exact Int.le_of_mul_le_mul_right e3 hg
theorem Frac.le_int (f : Frac) (n : Int) : f.le ⟨n, 1⟩ ↔ f.top ≤ n * f.below := by simp [Frac.le]
theorem Frac.int_le (f : Frac) (n : Int) : Frac.le ⟨n, 1⟩ f ↔ n * f.below ≤ f.top := by simp [Frac.le]
theorem Frac.down_le {f : Frac} (hf : 0 < f.below) (n : Int) : n ≤ f.down ↔ n * f.below ≤ f.top := Int.le_ediv_iff_mul_le hf
theorem Frac.up_le {f : Frac} (hf : 0 < f.below) (n : Int) : f.up ≤ n ↔ f.top ≤ n * f.below := by
  unfold Frac.up
  have := Int.le_ediv_iff_mul_le (a := -n) (b := -f.top) hf
  rw [Int.neg_mul] at this
  constructor
  · intro h; have := this.1 (by omega); omega
  · intro h; have := this.2 (by omega); omega
def Best (l : List (Frac × Frac)) (q : Frac × Frac) : Prop :=
  ((∃ p, p ∈ l ∧ p.1 = q.1) ∧ ∀ p, p ∈ l → p.1.le q.1) ∧ ((∃ p, p ∈ l ∧ p.2 = q.2) ∧ ∀ p, p ∈ l → q.2.le p.2)
theorem keep2_best {l : List (Frac × Frac)} {q p : Frac × Frac} (hl : ∀ x, x ∈ l → PairB x) (hq : Best l q) (hqB : PairB q) (hp : PairB p) : Best (l ++ [p]) (keep2 q p) := by
  have n1 : q.1 ≠ ⟨0, 0⟩ := fun h => by have := hqB.2.2.1; rw [h] at this; exact absurd this (by decide)
  have n2 : q.2 ≠ ⟨0, 0⟩ := fun h => by have := hqB.2.2.2; rw [h] at this; exact absurd this (by decide)
  obtain ⟨⟨⟨x, hx, ex⟩, h1⟩, ⟨y, hy, ey⟩, h2⟩ := hq
  unfold keep2 keepLo keepHi
  simp only [decide_eq_false n1, decide_eq_false n2, Bool.false_or]
  refine ⟨?_, ?_⟩
  · dsimp only
    cases hc : q.1.lt p.1
    · rw [Frac.lt_false] at hc
      refine ⟨⟨x, by simp [hx], ex⟩, fun z hz => ?_⟩
      rcases List.mem_append.1 hz with hz | hz
      · exact h1 z hz
      · rw [List.mem_singleton.1 hz]; exact hc
    · have hc' : q.1.le p.1 := (Frac.le_total _ _).resolve_right (by rw [Frac.lt_iff] at hc; exact hc)
      refine ⟨⟨p, by simp, rfl⟩, fun z hz => ?_⟩
      rcases List.mem_append.1 hz with hz | hz
      · exact Frac.le_trans (hl z hz).2.2.1 hqB.2.2.1 hp.2.2.1 (h1 z hz) hc'
      · rw [List.mem_singleton.1 hz]; exact Frac.le_refl _
  · dsimp only
    cases hc : p.2.lt q.2
    · rw [Frac.lt_false] at hc
      refine ⟨⟨y, by simp [hy], ey⟩, fun z hz => ?_⟩
      rcases List.mem_append.1 hz with hz | hz
      · exact h2 z hz
      · rw [List.mem_singleton.1 hz]; exact hc
    · have hc' : p.2.le q.2 := (Frac.le_total _ _).resolve_right (by rw [Frac.lt_iff] at hc; exact hc)
      refine ⟨⟨p, by simp, rfl⟩, fun z hz => ?_⟩
      rcases List.mem_append.1 hz with hz | hz
      · exact Frac.le_trans hp.2.2.2 hqB.2.2.2 (hl z hz).2.2.2 hc' (h2 z hz)
      · rw [List.mem_singleton.1 hz]; exact Frac.le_refl _
theorem foldl_best : ∀ (r l : List (Frac × Frac)) (q : Frac × Frac), (∀ x, x ∈ l ++ r → PairB x) → Best l q → PairB q → Best (l ++ r) (r.foldl keep2 q)
  | [], l, q, _, h, _ => by simpa using h
  | p :: r, l, q, hb, h, hq => by
    have hp := hb p (by simp)
    have := foldl_best r (l ++ [p]) (keep2 q p) (by simpa using hb) (keep2_best (fun x hx => hb x (by simp [hx])) h hq hp) (keep2_ok (.inr hq) hp)
    simpa using this
theorem rateF_best {t : HrTest} (hok : TestOk t) : Best (pairL t) (rateF t) := by
  have hB := pairL_ok hok
  have hne := pairL_ne hok.two
  unfold rateF
  cases hp : pairL t with
  | nil => exact absurd hp hne
  | cons p r =>
    rw [hp] at hB
    have hpB := hB p (by simp)
    have e : keep2 zero2 p = p := by simp [keep2, keepLo, keepHi, zero2]
    rw [List.foldl_cons, e]
    have := foldl_best r [p] p (by simpa using hB) ⟨⟨⟨p, by simp, rfl⟩, by simp [Frac.le_refl]⟩, ⟨p, by simp, rfl⟩, by simp [Frac.le_refl]⟩ hpB
    simpa using this
def poss (t : HrTest) : Bool := (hrRate t).2
theorem poss_iff {t : HrTest} (hok : TestOk t) : poss t = true ↔ ∀ p, p ∈ pairL t → ∀ q, q ∈ pairL t → p.1.le q.2 := by
  have hb := rateF_best hok
  have hB := pairL_ok hok
  have hr := rateF_ok hok
  have e : poss t = true ↔ (rateF t).1.le (rateF t).2 := by
    rw [poss, hrRate]
    dsimp only
    rw [Bool.not_eq_true', Frac.lt_false]
  rw [e]
  constructor
  · intro h p hp q hq
    exact Frac.le_trans (hB p hp).2.2.1 hr.2.2.2 (hB q hq).2.2.2 (Frac.le_trans (hB p hp).2.2.1 hr.2.2.1 hr.2.2.2 (hb.1.2 p hp) h) (hb.2.2 q hq)
  · intro h
    obtain ⟨⟨p, hp, e1⟩, _⟩ := hb.1
    obtain ⟨⟨q, hq, e2⟩, _⟩ := hb.2
    rw [← e1, ← e2]
    exact h p hp q hq
theorem falls_sorted : ∀ (l : List HrMark) (last : Int), fallsGo last l = false → (∀ m, m ∈ l → last < m.minute) ∧ l.Pairwise fun a b => a.minute < b.minute
  | [], _, _ => ⟨fun _ h => (List.not_mem_nil h).elim, .nil⟩
  | m :: r, last, h => by
    rw [fallsGo, Bool.or_eq_false_iff] at h
    have h1 : last < m.minute := by simpa using h.1
    have ⟨h2, h3⟩ := falls_sorted r m.minute h.2
    refine ⟨fun x hx => ?_, .cons h2 h3⟩
    rcases List.mem_cons.1 hx with rfl | hx
    · exact h1
    · have := h2 x hx; omega
theorem testErr_ok {nk : Int} {t : HrTest} (h : hrTestErr nk t = 0) : TestOk t ∧ 0 ≤ t.kind ∧ t.kind < nk := by
  unfold hrTestErr at h
  split at h
  · rename_i h1
    split at h
    · rename_i h2
      split at h
      · rename_i h3
        split at h
        · rename_i h4
          split at h
          · cases h
          · rename_i h5
            simp [gIn] at h1 h2 h3
            have h5' := falls_sorted _ _ (Bool.eq_false_iff.2 h5)
            rw [List.all_eq_true] at h4
            refine ⟨⟨⟨by omega, fun m hm => ?_, by omega⟩, by omega, h5'.2⟩, by omega, by omega⟩
            have := h4 m hm
            simp [markIn, gIn] at this
            omega
        · cases h
      · cases h
    · cases h
  · cases h
theorem open_ok {s : HrShop} {t : HrTest} (h : hrOpen s [t] = 0) : (hrCheck s).2.2 = 0 ∧ hrTestErr s.kinds.length t = 0 := by
  unfold hrOpen at h
  split at h
  · rename_i hc
    refine ⟨hc, ?_⟩
    simp only [testsErr] at h
    split at h <;> assumption
  · contradiction
def hrRateR (s : HrShop) (t : HrTest) : Span × Int := if hrOpen s [t] = 0 then (if poss t = true then ((hrRate t).1, 0) else (⟨0, 0⟩, 9)) else (⟨0, 0⟩, hrOpen s [t])
theorem cRate (s : HrShop) (t : HrTest) : PCall Tryz.prog 26 [s.pv, t.pv] (.tuple [(hrRateR s t).1.pv, .int .i64 (hrRateR s t).2]) := by
  refine pcall_of_wp draws (fn := Tryz.f26) (n := 26) (rs := [.cell 4 25, .tmp 5]) (by kernel_rfl) rfl rfl rfl ok26 (Nat.le_of_ble_eq_true rfl) ?_
  simp (maxSteps := 400000) only [go_sem, simprocAttr]
  refine WF_frz (cHrOpen s [t] true (by simp)) (by simp (maxSteps := 400000) only [go_sem, simprocAttr]) (.int _ _) ?_
  simp (maxSteps := 400000) only [go_sem, simprocAttr]
  cases h0 : (hrOpen s [t] != 0)
  rotate_left
  · have h0' : ¬ hrOpen s [t] = 0 := by simpa using h0
    simp (maxSteps := 400000) only [hrRateR, if_neg h0', Span.pv, go_sem, simprocAttr]
  have h0' : hrOpen s [t] = 0 := by simpa using h0
  have hok := (testErr_ok (open_ok h0').2).1
  simp (maxSteps := 400000) only [go_sem, simprocAttr]
  refine WF_pure (cRate0 t hok) rfl ?_
  simp (maxSteps := 400000) only [Span.pv, go_sem, simprocAttr]
  cases h1 : (hrRate t).2
  · simp (maxSteps := 400000) only [hrRateR, h0', poss, h1, Span.pv, go_sem, simprocAttr]
  · simp (maxSteps := 400000) only [hrRateR, h0', poss, h1, Span.pv, go_sem, simprocAttr]
def prs {α : Type} : List α → List (α × α)
  | [] => []
  | x :: r => r.map (fun y => (x, y)) ++ prs r
theorem prs_append {α : Type} (x : α) : ∀ l : List α, ∀ q, q ∈ prs (l ++ [x]) ↔ q ∈ prs l ∨ ∃ y, y ∈ l ∧ q = (y, x)
  | [], q => by simp [prs]
  | z :: l, q => by
    rw [List.cons_append, prs, prs, List.mem_append, List.mem_append, prs_append x l, List.map_append, List.mem_append]
    simp only [List.map_cons, List.map_nil, List.mem_cons, List.not_mem_nil, or_false]
    constructor
    · rintro ((h | h) | h | ⟨y, hy, h⟩)
      · exact .inl (.inl h)
      · exact .inr ⟨z, .inl rfl, h⟩
      · exact .inl (.inr h)
      · exact .inr ⟨y, .inr hy, h⟩
    · rintro ((h | h) | ⟨y, rfl | hy, h⟩)
      · exact .inl (.inl h)
      · exact .inr (.inl h)
      · exact .inl (.inr h)
      · exact .inr (.inr ⟨y, hy, h⟩)
theorem mem_pairsGo (e : Int) : ∀ (rest done : List HrMark) (q : Frac × Frac), (q ∈ pairsGo e done rest ∨ ∃ p, p ∈ prs done ∧ q = fracs e p.1 p.2) ↔ ∃ p, p ∈ prs (done ++ rest) ∧ q = fracs e p.1 p.2
  | [], done, q => by simp [pairsGo]
  | b :: r, done, q => by
    have := mem_pairsGo e r (done ++ [b]) q
    rw [List.append_assoc, List.singleton_append] at this
    rw [← this, pairsGo, List.mem_append, List.mem_map]
    constructor
    · rintro ((⟨a, ha, h⟩ | h) | ⟨p, hp, h⟩)
      · exact .inr ⟨(a, b), (prs_append b done _).2 (.inr ⟨a, ha, rfl⟩), h.symm⟩
      · exact .inl h
      · exact .inr ⟨p, (prs_append b done _).2 (.inl hp), h⟩
    · rintro (h | ⟨p, hp, h⟩)
      · exact .inl (.inr h)
      · rcases (prs_append b done _).1 hp with hp | ⟨a, ha, rfl⟩
        · exact .inr ⟨p, hp, h⟩
        · exact .inl (.inl ⟨a, ha, h.symm⟩)
theorem mem_pairL (t : HrTest) (q : Frac × Frac) : q ∈ pairL t ↔ ∃ p, p ∈ prs t.marks ∧ q = fracs t.error p.1 p.2 := by
  have := mem_pairsGo t.error t.marks [] q
  simpa [prs, pairL] using this
end Abs
end Go.Proofs.YtbojkcmohgbpaaaGreatDoor
namespace Go.Proofs.YtbojkcmohgbpaaaGreatDoor
namespace Abs
set_option linter.unusedSimpArgs false
set_option linter.unusedVariables false
set_option maxRecDepth 4000
def markC (m : HrMark) : AV := .p m.pv
attribute [go_sem] markC
def markZ : AV := .p (.agg [.int .i64 0, .int .i64 0])
theorem hCloneM (l : List HrMark) (b : Bool) (h : Heap) (hl : l ≠ []) (hlen : l.length ≤ 10) :
    HCall Tryz.prog 57 [.p (.slice 2 (l.map HrMark.pv) b)] h (fun r h' => r = .ret (.slice h.length l.length 0 l.length) ∧ h' = h ++ [.row 2 (l.map markC)]) := by
  refine hcall_of_wp draws (fn := Tryz.f57) (n := 8) (rs := [.tmp 2]) (by kernel_rfl) rfl rfl rfl ok57 (Nat.le_of_ble_eq_true rfl) ?_
  have hne : ¬ (l.map HrMark.pv = []) := by simpa using hl
  have hrm : l.length ≤ room := by simp [room]; omega
  have hm : (l.map HrMark.pv).map AV.p = l.map markC := by simp [markC]
  have hne2 : ¬ (l.map markC = []) := by simpa using hl
  simp (maxSteps := 400000) only [hne, hrm, hl, hm, hne2, if_neg hne2, go_sem, simprocAttr]
theorem hDeleteM (l : List HrMark) (i id : Nat) (h : Heap) (hid : h[id]? = some (.row 2 (l.map markC))) (hi : i < l.length) (hlen : l.length ≤ 10) :
    HCall Tryz.prog 56 [.slice id l.length 0 l.length, .p (.int .i64 i), .p (.int .i64 (i + 1 : Nat))] h
      (fun r h' => r = .ret (.slice id l.length 0 (l.length - 1)) ∧ h' = h.set id (.row 2 ((l.eraseIdx i).map markC ++ [markZ]))) := by
  refine hcall_of_wp draws (fn := Tryz.f56) (n := 33) (rs := [.tmp 6]) (by kernel_rfl) rfl rfl rfl ok56 (Nat.le_of_ble_eq_true rfl) ?_
  have h1 : (i : Int) ≤ ((i + 1 : Nat) : Int) := by omega
  have h2 : ((i + 1 : Nat) : Int) ≤ (l.length : Int) := by omega
  have h3 : ((i : Int) == ((i + 1 : Nat) : Int)) = false := by simp; omega
  have h0 : (0 : Int) ≤ (i : Int) := by omega
  have h4 : (0 : Int) + (l.length : Int) ≤ (l.length : Int) := by omega
  have h5 : (i : Int) ≤ (l.length : Int) := by omega
  have h6 : i + 1 + (l.length - (i + 1)) ≤ l.length := by omega
  have h7 : ¬ (i = l.length) := by omega
  have hys : List.take (l.length - (i + 1)) (List.drop (i + 1) (List.map markC l)) = (l.drop (i + 1)).map markC := by
    rw [← List.map_drop, List.take_of_length_le (by simp)]
  have h8 : i + (l.length - (i + 1)) = l.length - 1 := by omega
  have h9 : l.length - 1 ≤ l.length := by omega
  obtain ⟨z, hz⟩ : ∃ z, List.drop (l.length - 1) (List.map markC l) = [z] := by
    have : (List.drop (l.length - 1) (List.map markC l)).length = 1 := by simp; omega
    match hd : List.drop (l.length - 1) (List.map markC l), this with
    | [z], _ => exact ⟨z, rfl⟩
  have her : List.take i (List.map markC l) ++ ((l.drop (i + 1)).map markC ++ [z]) = (l.eraseIdx i).map markC ++ [z] := by
    rw [← List.append_assoc, ← List.map_take, ← List.map_append, List.eraseIdx_eq_take_drop_succ]
  have hel : (l.eraseIdx i).length = l.length - 1 := by rw [List.length_eraseIdx, if_pos hi]
  have hgs : ∀ x, (h.set id x)[id]? = some x := fun x => by rw [List.getElem?_set_self (List.getElem?_eq_some_iff.1 hid).1]
  have h10 : ((l.length - 1 : Nat) : Int) ≤ (l.length : Int) := by omega
  have h11 : (0 : Int) ≤ ((l.length - 1 : Nat) : Int) := by omega
  have h12 : l.length - 1 + 1 = l.length := by omega
  have h13 : l.length - (l.length - 1) = 1 := by omega
  have h14 : l.length - 1 + (l.length - (l.length - 1)) ≤ l.length := by omega
  have h15 : ¬ ((l.length : Int) ≤ ((l.length - 1 : Nat) : Int)) := by omega
  have htk : List.take (l.length - 1) (List.map markC (l.eraseIdx i) ++ [z]) = List.map markC (l.eraseIdx i) := List.take_left' (by rw [List.length_map, hel])
  have hdr : List.drop l.length (List.map markC (l.eraseIdx i) ++ [z]) = [] := List.drop_of_length_le (by simp [hel]; omega)
  simp (maxSteps := 400000) only [h15, htk, hdr, hid, h0, h1, h2, h3, h4, h5, h6, h7, hys, h8, h9, hz, her, hel, hgs, h10, h11, h12, h13, h14, Nat.sub_zero, Nat.zero_add, List.length_drop, List.append_assoc, List.set_set, List.length_append, List.length_singleton, Nat.le_refl, List.append_nil, List.replicate_succ, List.replicate_zero, markZ, go_sem, simprocAttr]
def nums (l : List Int) : PV := .slice 1 (l.map intPV) false
def wo (t : HrTest) (i : Nat) : HrTest := { t with marks := t.marks.eraseIdx i }
def oddGo (t : HrTest) : Nat → List HrMark → List Int
  | _, [] => []
  | i, _ :: r => (if poss (wo t i) = true then [(i : Int)] else []) ++ oddGo t (i + 1) r
def hrOdd (t : HrTest) : List Int := if poss t = true then [] else oddGo t 0 t.marks
theorem wo_ok {t : HrTest} (hok : TestOk t) {i : Nat} (h3 : 3 ≤ t.marks.length) : TestOk (wo t i) := by
  have hs : (t.marks.eraseIdx i).Sublist t.marks := List.eraseIdx_sublist ..
  have hl : (t.marks.eraseIdx i).length ≤ t.marks.length ∧ 2 ≤ (t.marks.eraseIdx i).length := by
    rw [List.length_eraseIdx]; split <;> omega
  exact ⟨⟨Nat.le_trans hl.1 hok.len, fun m hm => hok.all m (hs.subset hm), hok.err⟩, hl.2, hok.sorted.sublist hs⟩
theorem poss_two {t : HrTest} (hok : TestOk t) (h : t.marks.length = 2) : poss t = true := by
  rw [poss_iff hok]
  match hm : t.marks, h with
  | [a, b], _ =>
    intro p hp q hq
    have e : pairL t = [fracs t.error a b] := by simp [pairL, pairsGo, hm]
    rw [e, List.mem_singleton] at hp hq
    subst hp hq
    have h1 := pairL_ok hok (fracs t.error a b) (by rw [e]; simp)
    have h2 : 0 < b.minute - a.minute := h1.2.2.1
    have h3 := hok.err
    show _ * _ ≤ _ * _
    simp only [fracs]
    exact Int.mul_le_mul_of_nonneg_right (by omega) (by omega)
def hrOddR (s : HrShop) (t : HrTest) : List Int × Int := if hrOpen s [t] = 0 then (hrOdd t, 0) else ([], hrOpen s [t])
set_option maxHeartbeats 2000000 in
theorem cOdd (s : HrShop) (t : HrTest) : PCall Tryz.prog 30 [s.pv, t.pv] (.tuple [nums (hrOddR s t).1, .int .i64 (hrOddR s t).2]) := by
  refine pcall_of_wp_frzN draws (fn := Tryz.f30) (n := 51) (rs := [.tmp 4, .tmp 5]) (by kernel_rfl) rfl rfl rfl ok30 (Nat.le_of_ble_eq_true rfl) ?_
  simp (maxSteps := 400000) only [go_sem, simprocAttr]
  refine WF_frz (cHrOpen s [t] true (by simp)) (by simp (maxSteps := 400000) only [go_sem, simprocAttr]) (.int _ _) ?_
  simp (maxSteps := 400000) only [go_sem, simprocAttr]
  cases h0 : (hrOpen s [t] != 0)
  rotate_left
  · have h0' : ¬ hrOpen s [t] = 0 := by simpa using h0
    simp (maxSteps := 400000) only [hrOddR, if_neg h0', nums, List.map_nil, go_sem, simprocAttr]
    exact ⟨_, _, rfl, rfl, .inr ⟨rfl, 1, rfl⟩, .inl rfl, trivial⟩
  have h0' : hrOpen s [t] = 0 := by simpa using h0
  have hok := (testErr_ok (open_ok h0').2).1
  have hsp : hrOddR s t = (hrOdd t, 0) := by rw [hrOddR, if_pos h0']
  rw [hsp]
  simp (maxSteps := 400000) only [go_sem, simprocAttr]
  refine WF_pure (cRate0 t hok) rfl ?_
  simp (maxSteps := 400000) only [go_sem, simprocAttr]
  cases h1 : (hrRate t).2
  rotate_left
  · simp (maxSteps := 400000) only [hrOdd, poss, h1, nums, List.map_nil, go_sem, simprocAttr]
    exact ⟨_, _, rfl, rfl, .inr ⟨rfl, 1, rfl⟩, .inl rfl, trivial⟩
  have hnp : ¬ poss t = true := by simp [poss, h1]
  have h3 : 3 ≤ t.marks.length := by
    rcases Nat.lt_or_ge t.marks.length 3 with h | h
    · have := hok.two
      exact absurd (poss_two hok (by omega)) hnp
    · exact h
  have hlen := hok.len
  have hne : t.marks ≠ [] := by intro h; rw [h] at h3; simp at h3
  have hsp2 : hrOdd t = oddGo t 0 t.marks := by rw [hrOdd, if_neg hnp]
  rw [hsp2]
  simp (maxSteps := 400000) only [go_sem, simprocAttr]
  refine W_loop_nil 4 1 (by simp (maxSteps := 400000) only [go_sem, simprocAttr]) ?_
  simp (maxSteps := 400000) only [go_sem, simprocAttr]
  refine W_loopK [3, 8, 28] (σ := List HrMark × List HrMark × List Int × AObj × Heap)
    (fun q => t.marks = q.1 ++ q.2.1 ∧ oddGo t 0 t.marks = q.2.2.1 ++ oddGo t q.1.length q.2.1 ∧ q.2.2.1.length ≤ q.1.length ∧ (q.2.2.2.1 = .row 3 [.p t.pv] ∨ ∃ id ver n, q.2.2.2.1 = .row 3 [.agg [.p (.int .i64 t.kind), .p (.int .i64 t.error), .slice id ver 0 n]])) (fun q => q.2.1.length)
    (fun q => [(4, .slice 3 q.2.2.1.length 0 q.2.2.1.length), (29, .p (.int .i64 q.1.length))]) (fun q => [.row 3 [.p s.pv], q.2.2.2.1, .row 2 [.p (hrRate t).1.pv], .row 1 (q.2.2.1.map fun n => .p (intPV n))] ++ q.2.2.2.2) ([], t.marks, [], .row 3 [.p t.pv], []) ⟨rfl, rfl, Nat.le_refl _, .inl rfl⟩ (by simp (maxSteps := 400000) only [Span.pv, List.map_nil, List.append_nil, go_sem, simprocAttr]) ?_ ?_
  · simp (maxSteps := 400000) only [go_sem, simprocAttr]
  rintro ⟨done, rest, out, a, g⟩ ⟨e1, e2, e3, ha⟩
  dsimp only at e1 e2 e3 ha
  cases rest with
  | nil =>
    have hlt : ¬ ((done.length : Int) < (t.marks.length : Int)) := by rw [e1]; simp
    rw [oddGo, List.append_nil] at e2
    simp (maxSteps := 400000) only [hlt, decide_false, e2, nums, go_sem, simprocAttr]
    exact .inl rfl
  | cons b r =>
    obtain ⟨hx, hlt⟩ := list_at e1
    have hlen1 := congrArg List.length e1
    simp only [List.length_append, List.length_cons] at hlen1
    have hi : done.length < t.marks.length := by omega
    have hnx : IntKind.i64.wrap ((done.length : Int) + 1) = (((done ++ [b]).length : Nat) : Int) := wrap_add (by omega) (by simp [room]; omega) (by simp)
    have hn1 : IntKind.i64.wrap ((done.length : Int) + 1) = ((done.length + 1 : Nat) : Int) := by rw [hnx]; simp
    have hwo := wo_ok hok (i := done.length) h3
    simp (maxSteps := 400000) only [hlt, decide_true, go_sem, simprocAttr]
    refine WF_ret (hCloneM t.marks false _ hne hlen) ?_
    simp (maxSteps := 400000) only [hn1, go_sem, simprocAttr]
    have g0 := hap_g0 (lo := g) rfl
    have s0 := hap_s0 (lo := g) rfl
    have gg := hap_gg (lo := g) rfl
    have ss := hap_ss (lo := g) rfl
    refine WF_ret (hDeleteM t.marks done.length _ _ (by simp) hi hlen) ?_
    have hrm : out.length + 1 ≤ room := by simp [room]; omega
    have hog : oddGo t done.length (b :: r) = (if poss (wo t done.length) = true then [((done.length : Nat) : Int)] else []) ++ oddGo t (done.length + 1) r := rfl
    rw [hog] at e2
    have hfz : ∀ n h, frzList (frzN n h) (List.map markC (t.marks.eraseIdx done.length) ++ [markZ]) = some ((wo t done.length).marks.map HrMark.pv ++ [.agg [.int .i64 0, .int .i64 0]]) := by
      intro n h
      have e : List.map markC (t.marks.eraseIdx done.length) ++ [markZ] = List.map AV.p ((wo t done.length).marks.map HrMark.pv ++ [.agg [.int .i64 0, .int .i64 0]]) := by simp [markC, markZ, wo]
      rw [e]
      exact frzList_map (frzN_p n h) id _ |>.trans (by simp)
    have htk2 : List.take (t.marks.length - 1) ((t.marks.eraseIdx done.length).map HrMark.pv ++ [.agg [.int .i64 0, .int .i64 0]]) = (t.marks.eraseIdx done.length).map HrMark.pv := by
      rw [List.take_left' (by rw [List.length_map, List.length_eraseIdx, if_pos hi])]
    have hel2 : (t.marks.eraseIdx done.length).length + 1 = t.marks.length := by rw [List.length_eraseIdx, if_pos hi]; omega
    have hfl : t.marks.length - 1 ≤ t.marks.length := by omega
    rcases ha with rfl | ⟨id, ver, n, rfl⟩ <;>
    ( simp (maxSteps := 400000) only [g0, s0, gg, ss, go_sem, simprocAttr]
      refine WF_frz (cRate0 (wo t done.length) hwo) ?_ (.tuple ?_) ?_
      · simp (maxSteps := 400000) only [g0, hfz, htk2, hfl, hel2, List.length_append, List.length_singleton, wo, go_sem, simprocAttr]
      · exact Flat.cons (.agg (Flat.cons (.int _ _) (Flat.cons (.int _ _) Flat.nil))) (Flat.cons (.bool _) Flat.nil)
      simp (maxSteps := 400000) only [List.append_assoc, List.length_append, List.length_singleton, gg, ss, g0, s0, go_sem, simprocAttr]
      cases hp : (hrRate (wo t done.length)).2
      · simp (maxSteps := 400000) only [List.append_assoc, List.length_append, List.length_singleton, gg, ss, g0, s0, go_sem, simprocAttr]
        refine WQ_headK (done ++ [b], r, out, _, g ++ [AObj.row 2 (List.map markC (t.marks.eraseIdx done.length) ++ [markZ]), AObj.row 2 [AV.p (PV.agg [PV.int IntKind.i64 (hrRate (wo t done.length)).fst.lo, PV.int IntKind.i64 (hrRate (wo t done.length)).fst.hi])]]) ⟨by rw [e1]; simp, by rw [e2, if_neg (by rw [poss, hp]; simp)]; simp, by simp; omega, .inr ⟨g.length + 1 + 1 + 1 + 1, t.marks.length, t.marks.length - 1, rfl⟩⟩ (Nat.lt_succ_self _) ?_ ?_
        · simp (maxSteps := 400000) only [go_sem, simprocAttr]
        · simp (maxSteps := 400000) only [hnx, go_sem, simprocAttr]
      · simp (maxSteps := 400000) only [List.append_assoc, List.length_append, List.length_singleton, gg, ss, g0, s0, hrm, go_sem, simprocAttr]
        refine WQ_headK (done ++ [b], r, out ++ [((done.length : Nat) : Int)], _, g ++ [AObj.row 2 (List.map markC (t.marks.eraseIdx done.length) ++ [markZ]), AObj.row 2 [AV.p (PV.agg [PV.int IntKind.i64 (hrRate (wo t done.length)).fst.lo, PV.int IntKind.i64 (hrRate (wo t done.length)).fst.hi])]]) ⟨by rw [e1]; simp, by rw [e2, if_pos (by rw [poss, hp])]; simp, by simp; omega, .inr ⟨g.length + 1 + 1 + 1 + 1, t.marks.length, t.marks.length - 1, rfl⟩⟩ (Nat.lt_succ_self _) ?_ ?_
        · simp (maxSteps := 400000) only [go_sem, simprocAttr]
          rw [List.map_append]; rfl
        · simp (maxSteps := 400000) only [hnx, List.length_append, List.length_singleton, go_sem, simprocAttr])
end Abs
end Go.Proofs.YtbojkcmohgbpaaaGreatDoor
