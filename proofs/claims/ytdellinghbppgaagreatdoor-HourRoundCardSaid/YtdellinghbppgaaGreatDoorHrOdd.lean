/-
  CONTRACTS: marks that are odd; a test without a mark. No conditions but those in the theorems' heads.
-/
import Derived.Test.YtdellinghbppgaaGreatDoorHrRat
namespace Go.Proofs.YtdellinghbppgaaGreatDoor
namespace Abs
set_option linter.unusedSimpArgs false
set_option linter.unusedVariables false
set_option maxRecDepth 4000

def markC (m : HrMark) : AV := .p m.pv
attribute [go_sem] markC
def markZ : AV := .p (.agg [.int .i64 0, .int .i64 0])
theorem hCloneM (l : List HrMark) (b : Bool) (h : Heap) (hl : l ≠ []) (hlen : l.length ≤ 10) :
    HCall Tryz.prog 70 [.p (.slice 2 (l.map HrMark.pv) b)] h (fun r h' => r = .ret (.slice h.length l.length 0 l.length) ∧ h' = h ++ [.row 2 (l.map markC)]) := by
  refine hcall_of_wp draws (fn := Tryz.f70) (n := 8) (rs := [.tmp 2]) (by kernel_rfl) rfl rfl rfl ok70 (Nat.le_of_ble_eq_true rfl) ?_
  have hne : ¬ (l.map HrMark.pv = []) := by simpa using hl
  have hrm : l.length ≤ room := by simp [room]; omega
  have hm : (l.map HrMark.pv).map AV.p = l.map markC := by simp [markC]
  have hne2 : ¬ (l.map markC = []) := by simpa using hl
  simp (maxSteps := 400000) only [hne, hrm, hl, hm, hne2, if_neg hne2, go_sem, simprocAttr]
theorem hDeleteM (l : List HrMark) (i id : Nat) (h : Heap) (hid : h[id]? = some (.row 2 (l.map markC))) (hi : i < l.length) (hlen : l.length ≤ 10) :
    HCall Tryz.prog 69 [.slice id l.length 0 l.length, .p (.int .i64 i), .p (.int .i64 (i + 1 : Nat))] h
      (fun r h' => r = .ret (.slice id l.length 0 (l.length - 1)) ∧ h' = h.set id (.row 2 ((l.eraseIdx i).map markC ++ [markZ]))) := by
  refine hcall_of_wp draws (fn := Tryz.f69) (n := 33) (rs := [.tmp 6]) (by kernel_rfl) rfl rfl rfl ok69 (Nat.le_of_ble_eq_true rfl) ?_
  have h1 : (i : Int) ≤ ((i + 1 : Nat) : Int) := by omega
  have h2 : ((i + 1 : Nat) : Int) ≤ (l.length : Int) := by omega
  have h3 : ((i : Int) == ((i + 1 : Nat) : Int)) = false := by simp; omega
  have h0 : (0 : Int) ≤ (i : Int) := by omega
  have h4 : (0 : Int) + (l.length : Int) ≤ (l.length : Int) := by omega
  have h5 : (i : Int) ≤ (l.length : Int) := by omega
  have h6 : i + 1 + (l.length - (i + 1)) ≤ l.length := by omega
  have h7 : ¬ (i = l.length) := by omega
  have hys : List.take (l.length - (i + 1)) (List.drop (i + 1) (List.map markC l)) = (l.drop (i + 1)).map markC := by
    rw [← List.map_drop, List.take_of_length_le (by simp)]
  have h8 : i + (l.length - (i + 1)) = l.length - 1 := by omega
  have h9 : l.length - 1 ≤ l.length := by omega
  obtain ⟨z, hz⟩ : ∃ z, List.drop (l.length - 1) (List.map markC l) = [z] := by
    have : (List.drop (l.length - 1) (List.map markC l)).length = 1 := by simp; omega
    match hd : List.drop (l.length - 1) (List.map markC l), this with
    | [z], _ => exact ⟨z, rfl⟩
  have her : List.take i (List.map markC l) ++ ((l.drop (i + 1)).map markC ++ [z]) = (l.eraseIdx i).map markC ++ [z] := by
    rw [← List.append_assoc, ← List.map_take, ← List.map_append, List.eraseIdx_eq_take_drop_succ]
  have hel : (l.eraseIdx i).length = l.length - 1 := by rw [List.length_eraseIdx, if_pos hi]
  have hgs : ∀ x, (h.set id x)[id]? = some x := fun x => by rw [List.getElem?_set_self (List.getElem?_eq_some_iff.1 hid).1]
  have h10 : ((l.length - 1 : Nat) : Int) ≤ (l.length : Int) := by omega
  have h11 : (0 : Int) ≤ ((l.length - 1 : Nat) : Int) := by omega
  have h12 : l.length - 1 + 1 = l.length := by omega
  have h13 : l.length - (l.length - 1) = 1 := by omega
  have h14 : l.length - 1 + (l.length - (l.length - 1)) ≤ l.length := by omega
  have h15 : ¬ ((l.length : Int) ≤ ((l.length - 1 : Nat) : Int)) := by omega
  have htk : List.take (l.length - 1) (List.map markC (l.eraseIdx i) ++ [z]) = List.map markC (l.eraseIdx i) := List.take_left' (by rw [List.length_map, hel])
  have hdr : List.drop l.length (List.map markC (l.eraseIdx i) ++ [z]) = [] := List.drop_of_length_le (by simp [hel]; omega)
  simp (maxSteps := 400000) only [h15, htk, hdr, hid, h0, h1, h2, h3, h4, h5, h6, h7, hys, h8, h9, hz, her, hel, hgs, h10, h11, h12, h13, h14, Nat.sub_zero, Nat.zero_add, List.length_drop, List.append_assoc, List.set_set, List.length_append, List.length_singleton, Nat.le_refl, List.append_nil, List.replicate_succ, List.replicate_zero, markZ, go_sem, simprocAttr]

def nums (l : List Int) : PV := .slice 1 (l.map intPV) false
def wo (t : HrTest) (i : Nat) : HrTest := { t with marks := t.marks.eraseIdx i }
def oddGo (t : HrTest) : Nat → List HrMark → List Int
  | _, [] => []
  | i, _ :: r => (if poss (wo t i) = true then [(i : Int)] else []) ++ oddGo t (i + 1) r
def hrOdd (t : HrTest) : List Int := if poss t = true then [] else oddGo t 0 t.marks
theorem wo_ok {t : HrTest} (hok : TestOk t) {i : Nat} (h3 : 3 ≤ t.marks.length) : TestOk (wo t i) := by
  have hs : (t.marks.eraseIdx i).Sublist t.marks := List.eraseIdx_sublist ..
  have hl : (t.marks.eraseIdx i).length ≤ t.marks.length ∧ 2 ≤ (t.marks.eraseIdx i).length := by
    rw [List.length_eraseIdx]; split <;> omega
  exact ⟨⟨Nat.le_trans hl.1 hok.len, fun m hm => hok.all m (hs.subset hm), hok.err⟩, hl.2, hok.sorted.sublist hs⟩
theorem poss_two {t : HrTest} (hok : TestOk t) (h : t.marks.length = 2) : poss t = true := by
  rw [poss_iff hok]
  match hm : t.marks, h with
  | [a, b], _ =>
    intro p hp q hq
    have e : pairL t = [fracs t.error a b] := by simp [pairL, pairsGo, hm]
    rw [e, List.mem_singleton] at hp hq
    subst hp hq
    have h1 := pairL_ok hok (fracs t.error a b) (by rw [e]; simp)
    have h2 : 0 < b.minute - a.minute := h1.2.2.1
    have h3 := hok.err
    show _ * _ ≤ _ * _
    simp only [fracs]
    exact Int.mul_le_mul_of_nonneg_right (by omega) (by omega)
def hrOddR (s : HrShop) (t : HrTest) : List Int × Int := if hrOpen s [t] = 0 then (hrOdd t, 0) else ([], hrOpen s [t])
set_option maxHeartbeats 2000000 in
theorem cOdd (s : HrShop) (t : HrTest) : PCall Tryz.prog 22 [s.pv, t.pv] (.tuple [nums (hrOddR s t).1, .int .i64 (hrOddR s t).2]) := by
  refine pcall_of_wp_frzN draws (fn := Tryz.f22) (n := 51) (rs := [.tmp 4, .tmp 5]) (by kernel_rfl) rfl rfl rfl ok22 (Nat.le_of_ble_eq_true rfl) ?_
  simp (maxSteps := 400000) only [go_sem, simprocAttr]
  refine WF_frz (cHrOpen s [t] true (by simp)) (by simp (maxSteps := 400000) only [go_sem, simprocAttr]) (.int _ _) ?_
  simp (maxSteps := 400000) only [go_sem, simprocAttr]
  cases h0 : (hrOpen s [t] != 0)
  rotate_left
  · have h0' : ¬ hrOpen s [t] = 0 := by simpa using h0
    simp (maxSteps := 400000) only [hrOddR, if_neg h0', nums, List.map_nil, go_sem, simprocAttr]
    exact ⟨_, _, rfl, rfl, .inr ⟨rfl, 1, rfl⟩, .inl rfl, trivial⟩
  have h0' : hrOpen s [t] = 0 := by simpa using h0
  have hok := (testErr_ok (open_ok h0').2).1
  have hsp : hrOddR s t = (hrOdd t, 0) := by rw [hrOddR, if_pos h0']
  rw [hsp]
  simp (maxSteps := 400000) only [go_sem, simprocAttr]
  refine WF_pure (cRate0 t hok) rfl ?_
  simp (maxSteps := 400000) only [go_sem, simprocAttr]
  cases h1 : (hrRate t).2
  rotate_left
  · simp (maxSteps := 400000) only [hrOdd, poss, h1, nums, List.map_nil, go_sem, simprocAttr]
    exact ⟨_, _, rfl, rfl, .inr ⟨rfl, 1, rfl⟩, .inl rfl, trivial⟩
  have hnp : ¬ poss t = true := by simp [poss, h1]
  have h3 : 3 ≤ t.marks.length := by
    rcases Nat.lt_or_ge t.marks.length 3 with h | h
    · have := hok.two
      exact absurd (poss_two hok (by omega)) hnp
    · exact h
  have hlen := hok.len
  have hne : t.marks ≠ [] := by intro h; rw [h] at h3; simp at h3
  have hsp2 : hrOdd t = oddGo t 0 t.marks := by rw [hrOdd, if_neg hnp]
  rw [hsp2]
  simp (maxSteps := 400000) only [go_sem, simprocAttr]
  refine W_loop_nil 4 1 (by simp (maxSteps := 400000) only [go_sem, simprocAttr]) ?_
  simp (maxSteps := 400000) only [go_sem, simprocAttr]
  refine W_loopK [3, 8, 28] (σ := List HrMark × List HrMark × List Int × AObj × Heap)
    (fun q => t.marks = q.1 ++ q.2.1 ∧ oddGo t 0 t.marks = q.2.2.1 ++ oddGo t q.1.length q.2.1 ∧ q.2.2.1.length ≤ q.1.length ∧ (q.2.2.2.1 = .row 3 [.p t.pv] ∨ ∃ id ver n, q.2.2.2.1 = .row 3 [.agg [.p (.int .i64 t.kind), .p (.int .i64 t.error), .slice id ver 0 n]])) (fun q => q.2.1.length)
    (fun q => [(4, .slice 3 q.2.2.1.length 0 q.2.2.1.length), (29, .p (.int .i64 q.1.length))]) (fun q => [.row 3 [.p s.pv], q.2.2.2.1, .row 2 [.p (hrRate t).1.pv], .row 1 (q.2.2.1.map fun n => .p (intPV n))] ++ q.2.2.2.2) ([], t.marks, [], .row 3 [.p t.pv], []) ⟨rfl, rfl, Nat.le_refl _, .inl rfl⟩ (by simp (maxSteps := 400000) only [Span.pv, List.map_nil, List.append_nil, go_sem, simprocAttr]) ?_ ?_
  · simp (maxSteps := 400000) only [go_sem, simprocAttr]
  rintro ⟨done, rest, out, a, g⟩ ⟨e1, e2, e3, ha⟩
  dsimp only at e1 e2 e3 ha
  cases rest with
  | nil =>
    have hlt : ¬ ((done.length : Int) < (t.marks.length : Int)) := by rw [e1]; simp
    rw [oddGo, List.append_nil] at e2
    simp (maxSteps := 400000) only [hlt, decide_false, e2, nums, go_sem, simprocAttr]
    exact .inl rfl
  | cons b r =>
    obtain ⟨hx, hlt⟩ := list_at e1
    have hlen1 := congrArg List.length e1
    simp only [List.length_append, List.length_cons] at hlen1
    have hi : done.length < t.marks.length := by omega
    have hnx : IntKind.i64.wrap ((done.length : Int) + 1) = (((done ++ [b]).length : Nat) : Int) := wrap_add (by omega) (by simp [room]; omega) (by simp)
    have hn1 : IntKind.i64.wrap ((done.length : Int) + 1) = ((done.length + 1 : Nat) : Int) := by rw [hnx]; simp
    have hwo := wo_ok hok (i := done.length) h3
    simp (maxSteps := 400000) only [hlt, decide_true, go_sem, simprocAttr]
    refine WF_ret (hCloneM t.marks false _ hne hlen) ?_
    simp (maxSteps := 400000) only [hn1, go_sem, simprocAttr]
    have g0 := hap_g0 (lo := g) rfl
    have s0 := hap_s0 (lo := g) rfl
    have gg := hap_gg (lo := g) rfl
    have ss := hap_ss (lo := g) rfl
    refine WF_ret (hDeleteM t.marks done.length _ _ (by simp) hi hlen) ?_
    have hrm : out.length + 1 ≤ room := by simp [room]; omega
    have hog : oddGo t done.length (b :: r) = (if poss (wo t done.length) = true then [((done.length : Nat) : Int)] else []) ++ oddGo t (done.length + 1) r := rfl
    rw [hog] at e2
    have hfz : ∀ n h, frzList (frzN n h) (List.map markC (t.marks.eraseIdx done.length) ++ [markZ]) = some ((wo t done.length).marks.map HrMark.pv ++ [.agg [.int .i64 0, .int .i64 0]]) := by
      intro n h
      have e : List.map markC (t.marks.eraseIdx done.length) ++ [markZ] = List.map AV.p ((wo t done.length).marks.map HrMark.pv ++ [.agg [.int .i64 0, .int .i64 0]]) := by simp [markC, markZ, wo]
      rw [e]
      exact frzList_map (frzN_p n h) id _ |>.trans (by simp)
    have htk2 : List.take (t.marks.length - 1) ((t.marks.eraseIdx done.length).map HrMark.pv ++ [.agg [.int .i64 0, .int .i64 0]]) = (t.marks.eraseIdx done.length).map HrMark.pv := by
      rw [List.take_left' (by rw [List.length_map, List.length_eraseIdx, if_pos hi])]
    have hel2 : (t.marks.eraseIdx done.length).length + 1 = t.marks.length := by rw [List.length_eraseIdx, if_pos hi]; omega
    have hfl : t.marks.length - 1 ≤ t.marks.length := by omega
    rcases ha with rfl | ⟨id, ver, n, rfl⟩ <;>
    ( simp (maxSteps := 400000) only [g0, s0, gg, ss, go_sem, simprocAttr]
      refine WF_frz (cRate0 (wo t done.length) hwo) ?_ (.tuple ?_) ?_
      · simp (maxSteps := 400000) only [g0, hfz, htk2, hfl, hel2, List.length_append, List.length_singleton, wo, go_sem, simprocAttr]
      · exact Flat.cons (.agg (Flat.cons (.int _ _) (Flat.cons (.int _ _) Flat.nil))) (Flat.cons (.bool _) Flat.nil)
      simp (maxSteps := 400000) only [List.append_assoc, List.length_append, List.length_singleton, gg, ss, g0, s0, go_sem, simprocAttr]
      cases hp : (hrRate (wo t done.length)).2
      · simp (maxSteps := 400000) only [List.append_assoc, List.length_append, List.length_singleton, gg, ss, g0, s0, go_sem, simprocAttr]
        refine WQ_headK (done ++ [b], r, out, _, g ++ [AObj.row 2 (List.map markC (t.marks.eraseIdx done.length) ++ [markZ]), AObj.row 2 [AV.p (PV.agg [PV.int IntKind.i64 (hrRate (wo t done.length)).fst.lo, PV.int IntKind.i64 (hrRate (wo t done.length)).fst.hi])]]) ⟨by rw [e1]; simp, by rw [e2, if_neg (by rw [poss, hp]; simp)]; simp, by simp; omega, .inr ⟨g.length + 1 + 1 + 1 + 1, t.marks.length, t.marks.length - 1, rfl⟩⟩ (Nat.lt_succ_self _) ?_ ?_
        · simp (maxSteps := 400000) only [go_sem, simprocAttr]
        · simp (maxSteps := 400000) only [hnx, go_sem, simprocAttr]
      · simp (maxSteps := 400000) only [List.append_assoc, List.length_append, List.length_singleton, gg, ss, g0, s0, hrm, go_sem, simprocAttr]
        refine WQ_headK (done ++ [b], r, out ++ [((done.length : Nat) : Int)], _, g ++ [AObj.row 2 (List.map markC (t.marks.eraseIdx done.length) ++ [markZ]), AObj.row 2 [AV.p (PV.agg [PV.int IntKind.i64 (hrRate (wo t done.length)).fst.lo, PV.int IntKind.i64 (hrRate (wo t done.length)).fst.hi])]]) ⟨by rw [e1]; simp, by rw [e2, if_pos (by rw [poss, hp])]; simp, by simp; omega, .inr ⟨g.length + 1 + 1 + 1 + 1, t.marks.length, t.marks.length - 1, rfl⟩⟩ (Nat.lt_succ_self _) ?_ ?_
        · simp (maxSteps := 400000) only [go_sem, simprocAttr]
          rw [List.map_append]; rfl
        · simp (maxSteps := 400000) only [hnx, List.length_append, List.length_singleton, go_sem, simprocAttr])
/-! the reference -/
theorem cRefWithout (t : HrTest) (i : Nat) (hi : i < t.marks.length) (h2l : 2 ≤ t.marks.length) (hlen : t.marks.length ≤ 10) : PCall Tryz.prog 25 [t.pv, .int .i64 i] (wo t i).pv := by
  refine pcall_of_wp_frz draws (fn := Tryz.f25) (n := 19) (rs := [.cell 4 33]) (by kernel_rfl) rfl rfl rfl ok25 (Nat.le_of_ble_eq_true rfl) ?_
  have h0 : (0 : Int) ≤ (i : Int) := by omega
  have h1 : (i : Int) ≤ (t.marks.length : Int) := by omega
  have hn1 : IntKind.i64.wrap ((i : Int) + 1) = ((i + 1 : Nat) : Int) := wrap_add (by omega) (by simp [room]; omega) (by simp)
  have h2 : ((i + 1 : Nat) : Int) ≤ (t.marks.length : Int) := by omega
  have hsp : (wo t i).pv = .agg [.int .i64 t.kind, .int .i64 t.error, .slice 2 ((t.marks.take i ++ t.marks.drop (i + 1)).map HrMark.pv) false] := by
    simp only [wo, HrTest.pv, List.eraseIdx_eq_take_drop_succ]
  rw [hsp]
  have hA : List.take i (List.map HrMark.pv t.marks) = (t.marks.take i).map HrMark.pv := by rw [List.map_take]
  have hB : List.drop (i + 1) (List.map HrMark.pv t.marks) = (t.marks.drop (i + 1)).map HrMark.pv := by rw [List.map_drop]
  have hfz : ∀ n h (l : List HrMark), frzList (frzN n h) (List.map AV.p (List.map HrMark.pv l)) = some (l.map HrMark.pv) := fun n h l => (frzList_map (frzN_p n h) id _).trans (by simp)
  have hAl : (t.marks.take i).length ≤ room := by simp [room]; omega
  have hBl : (t.marks.drop (i + 1)).length ≤ room := by simp [room]; omega
  have hABl : (t.marks.take i).length + (t.marks.drop (i + 1)).length ≤ room := by rw [List.length_take, List.length_drop, show room = 274877906944 from rfl]; omega
  have hne : (t.marks.take i).length + (t.marks.drop (i + 1)).length ≠ 0 := by rw [List.length_take, List.length_drop]; omega
  generalize t.marks.take i = A at *
  generalize t.marks.drop (i + 1) = B at *
  cases A with
  | nil =>
    cases B with
    | nil => simp at hne
    | cons b B =>
      simp only [List.length_nil, List.length_cons, Nat.zero_add] at hAl hBl hABl
      simp (maxSteps := 400000) only [h0, h1, h2, hn1, hA, hB, hAl, hBl, hABl, H25, W_drawH, hfz, go_sem, simprocAttr]
      exact .inl ⟨[], rfl⟩
  | cons a A =>
    cases B with
    | nil =>
      simp only [List.length_nil, List.length_cons, Nat.add_zero] at hAl hBl hABl
      simp (maxSteps := 400000) only [h0, h1, h2, hn1, hA, hB, hAl, hBl, hABl, H25, W_drawH, Nat.add_zero, List.append_nil, hfz, go_sem, simprocAttr]
      exact .inl ⟨_, rfl⟩
    | cons b B =>
      have hap : List.map AV.p (List.map HrMark.pv A) ++ AV.p (.agg [.int .i64 b.minute, .int .i64 b.weight]) :: List.map AV.p (List.map HrMark.pv B) = List.map AV.p (List.map HrMark.pv (A ++ b :: B)) := by simp [HrMark.pv]
      have hal : (A ++ b :: B).length + 1 = A.length + 1 + (B.length + 1) := by simp; omega
      have htk : List.take (A.length + (B.length + 1)) (List.map HrMark.pv (A ++ b :: B)) = List.map HrMark.pv (A ++ b :: B) := List.take_of_length_le (by simp)
      simp only [List.length_nil, List.length_cons] at hAl hBl hABl
      simp (maxSteps := 400000) only [h0, h1, h2, hn1, hA, hB, hAl, hBl, hABl, H25, W_drawH, Nat.add_zero, hap, hfz, hal, go_sem, simprocAttr]
      refine ⟨.inl ⟨_, rfl⟩, ?_⟩
      rw [List.take_of_length_le (by simp; omega)]
end Abs
end Go.Proofs.YtdellinghbppgaaGreatDoor
