/-
  CONTRACTS: marks that are odd, as new memory. No conditions but those in the theorems' heads.
-/
import Derived.Test.YtdellinghbppgaaGreatDoorHrOdd
namespace Go.Proofs.YtdellinghbppgaaGreatDoor
namespace Abs
set_option linter.unusedSimpArgs false
set_option linter.unusedVariables false
set_option maxRecDepth 4000

def oddV (s : HrShop) (t : HrTest) : PV := if hrOpen s [t] = 0 ∧ poss t = false then nums (hrOdd t) else .nilslice
set_option maxHeartbeats 2000000 in
theorem nOdd (s : HrShop) (t : HrTest) : PCallN Tryz.prog 22 [s.pv, t.pv] (.tuple [oddV s t, .int .i64 (hrOddR s t).2]) := by
  refine pcallN_of_wp draws (fn := Tryz.f22) (n := 51) (rs := [.tmp 4, .tmp 5]) (by kernel_rfl) rfl rfl rfl ok22 (Nat.le_of_ble_eq_true rfl) ?_
  simp (maxSteps := 400000) only [go_sem, simprocAttr]
  refine WF_frz (cHrOpen s [t] true (by simp)) (by simp (maxSteps := 400000) only [go_sem, simprocAttr]) (.int _ _) ?_
  simp (maxSteps := 400000) only [go_sem, simprocAttr]
  cases h0 : (hrOpen s [t] != 0)
  rotate_left
  · have h0' : ¬ hrOpen s [t] = 0 := by simpa using h0
    have hv : oddV s t = .nilslice := by rw [oddV, if_neg (fun h => h0' h.1)]
    simp (maxSteps := 400000) only [hrOddR, if_neg h0', hv, go_sem, simprocAttr]
  have h0' : hrOpen s [t] = 0 := by simpa using h0
  have hok := (testErr_ok (open_ok h0').2).1
  have hsp : (hrOddR s t).2 = 0 := by rw [hrOddR, if_pos h0']
  rw [hsp]
  simp (maxSteps := 400000) only [go_sem, simprocAttr]
  refine WF_pure (cRate0 t hok) rfl ?_
  simp (maxSteps := 400000) only [go_sem, simprocAttr]
  cases h1 : (hrRate t).2
  rotate_left
  · have hv : oddV s t = .nilslice := by rw [oddV, if_neg (fun h => by have := h.2; rw [poss, h1] at this; cases this)]
    simp (maxSteps := 400000) only [hv, go_sem, simprocAttr]
  have hnp : ¬ poss t = true := by simp [poss, h1]
  have h3 : 3 ≤ t.marks.length := by
    rcases Nat.lt_or_ge t.marks.length 3 with h | h
    · have := hok.two
      exact absurd (poss_two hok (by omega)) hnp
    · exact h
  have hlen := hok.len
  have hne : t.marks ≠ [] := by intro h; rw [h] at h3; simp at h3
  have hsp2 : hrOdd t = oddGo t 0 t.marks := by rw [hrOdd, if_neg hnp]
  have hv : oddV s t = nums (oddGo t 0 t.marks) := by rw [oddV, if_pos ⟨h0', by simpa using hnp⟩, hsp2]
  rw [hv]
  simp (maxSteps := 400000) only [go_sem, simprocAttr]
  refine W_loop_nil 4 1 (by simp (maxSteps := 400000) only [go_sem, simprocAttr]) ?_
  simp (maxSteps := 400000) only [go_sem, simprocAttr]
  refine W_loopK [3, 8, 28] (σ := List HrMark × List HrMark × List Int × AObj × Heap)
    (fun q => t.marks = q.1 ++ q.2.1 ∧ oddGo t 0 t.marks = q.2.2.1 ++ oddGo t q.1.length q.2.1 ∧ q.2.2.1.length ≤ q.1.length ∧ (q.2.2.2.1 = .row 3 [.p t.pv] ∨ ∃ id ver n, q.2.2.2.1 = .row 3 [.agg [.p (.int .i64 t.kind), .p (.int .i64 t.error), .slice id ver 0 n]])) (fun q => q.2.1.length)
    (fun q => [(4, .slice 3 q.2.2.1.length 0 q.2.2.1.length), (29, .p (.int .i64 q.1.length))]) (fun q => [.row 3 [.p s.pv], q.2.2.2.1, .row 2 [.p (hrRate t).1.pv], .row 1 (q.2.2.1.map fun n => .p (intPV n))] ++ q.2.2.2.2) ([], t.marks, [], .row 3 [.p t.pv], []) ⟨rfl, rfl, Nat.le_refl _, .inl rfl⟩ (by simp (maxSteps := 400000) only [Span.pv, List.map_nil, List.append_nil, go_sem, simprocAttr]) ?_ ?_
  · simp (maxSteps := 400000) only [go_sem, simprocAttr]
  rintro ⟨done, rest, out, a, g⟩ ⟨e1, e2, e3, ha⟩
  dsimp only at e1 e2 e3 ha
  cases rest with
  | nil =>
    have hlt : ¬ ((done.length : Int) < (t.marks.length : Int)) := by rw [e1]; simp
    rw [oddGo, List.append_nil] at e2
    have hfz : ∀ n h (ms : List Int), frzList (frzF n h) (ms.map fun n => AV.p (PV.int .i64 n)) = some (ms.map intPV) := fun n h ms => frzListF_map n h intPV (fun _ => rfl) ms
    simp (maxSteps := 400000) only [hlt, decide_false, e2, nums, hfz, take_map_len, go_sem, simprocAttr]
  | cons b r =>
    obtain ⟨hx, hlt⟩ := list_at e1
    have hlen1 := congrArg List.length e1
    simp only [List.length_append, List.length_cons] at hlen1
    have hi : done.length < t.marks.length := by omega
    have hnx : IntKind.i64.wrap ((done.length : Int) + 1) = (((done ++ [b]).length : Nat) : Int) := wrap_add (by omega) (by simp [room]; omega) (by simp)
    have hn1 : IntKind.i64.wrap ((done.length : Int) + 1) = ((done.length + 1 : Nat) : Int) := by rw [hnx]; simp
    have hwo := wo_ok hok (i := done.length) h3
    simp (maxSteps := 400000) only [hlt, decide_true, go_sem, simprocAttr]
    refine WF_ret (hCloneM t.marks false _ hne hlen) ?_
    simp (maxSteps := 400000) only [hn1, go_sem, simprocAttr]
    have g0 := hap_g0 (lo := g) rfl
    have s0 := hap_s0 (lo := g) rfl
    have gg := hap_gg (lo := g) rfl
    have ss := hap_ss (lo := g) rfl
    refine WF_ret (hDeleteM t.marks done.length _ _ (by simp) hi hlen) ?_
    have hrm : out.length + 1 ≤ room := by simp [room]; omega
    have hog : oddGo t done.length (b :: r) = (if poss (wo t done.length) = true then [((done.length : Nat) : Int)] else []) ++ oddGo t (done.length + 1) r := rfl
    rw [hog] at e2
    have hfz : ∀ n h, frzList (frzN n h) (List.map markC (t.marks.eraseIdx done.length) ++ [markZ]) = some ((wo t done.length).marks.map HrMark.pv ++ [.agg [.int .i64 0, .int .i64 0]]) := by
      intro n h
      have e : List.map markC (t.marks.eraseIdx done.length) ++ [markZ] = List.map AV.p ((wo t done.length).marks.map HrMark.pv ++ [.agg [.int .i64 0, .int .i64 0]]) := by simp [markC, markZ, wo]
      rw [e]
      exact frzList_map (frzN_p n h) id _ |>.trans (by simp)
    have htk2 : List.take (t.marks.length - 1) ((t.marks.eraseIdx done.length).map HrMark.pv ++ [.agg [.int .i64 0, .int .i64 0]]) = (t.marks.eraseIdx done.length).map HrMark.pv := by
      rw [List.take_left' (by rw [List.length_map, List.length_eraseIdx, if_pos hi])]
    have hel2 : (t.marks.eraseIdx done.length).length + 1 = t.marks.length := by rw [List.length_eraseIdx, if_pos hi]; omega
    have hfl : t.marks.length - 1 ≤ t.marks.length := by omega
    rcases ha with rfl | ⟨id, ver, n, rfl⟩ <;>
    ( simp (maxSteps := 400000) only [g0, s0, gg, ss, go_sem, simprocAttr]
      refine WF_frz (cRate0 (wo t done.length) hwo) ?_ (.tuple ?_) ?_
      · simp (maxSteps := 400000) only [g0, hfz, htk2, hfl, hel2, List.length_append, List.length_singleton, wo, go_sem, simprocAttr]
      · exact Flat.cons (.agg (Flat.cons (.int _ _) (Flat.cons (.int _ _) Flat.nil))) (Flat.cons (.bool _) Flat.nil)
      simp (maxSteps := 400000) only [List.append_assoc, List.length_append, List.length_singleton, gg, ss, g0, s0, go_sem, simprocAttr]
      cases hp : (hrRate (wo t done.length)).2
      · simp (maxSteps := 400000) only [List.append_assoc, List.length_append, List.length_singleton, gg, ss, g0, s0, go_sem, simprocAttr]
        refine WQ_headK (done ++ [b], r, out, _, g ++ [AObj.row 2 (List.map markC (t.marks.eraseIdx done.length) ++ [markZ]), AObj.row 2 [AV.p (PV.agg [PV.int IntKind.i64 (hrRate (wo t done.length)).fst.lo, PV.int IntKind.i64 (hrRate (wo t done.length)).fst.hi])]]) ⟨by rw [e1]; simp, by rw [e2, if_neg (by rw [poss, hp]; simp)]; simp, by simp; omega, .inr ⟨g.length + 1 + 1 + 1 + 1, t.marks.length, t.marks.length - 1, rfl⟩⟩ (Nat.lt_succ_self _) ?_ ?_
        · simp (maxSteps := 400000) only [go_sem, simprocAttr]
        · simp (maxSteps := 400000) only [hnx, go_sem, simprocAttr]
      · simp (maxSteps := 400000) only [List.append_assoc, List.length_append, List.length_singleton, gg, ss, g0, s0, hrm, go_sem, simprocAttr]
        refine WQ_headK (done ++ [b], r, out ++ [((done.length : Nat) : Int)], _, g ++ [AObj.row 2 (List.map markC (t.marks.eraseIdx done.length) ++ [markZ]), AObj.row 2 [AV.p (PV.agg [PV.int IntKind.i64 (hrRate (wo t done.length)).fst.lo, PV.int IntKind.i64 (hrRate (wo t done.length)).fst.hi])]]) ⟨by rw [e1]; simp, by rw [e2, if_pos (by rw [poss, hp])]; simp, by simp; omega, .inr ⟨g.length + 1 + 1 + 1 + 1, t.marks.length, t.marks.length - 1, rfl⟩⟩ (Nat.lt_succ_self _) ?_ ?_
        · simp (maxSteps := 400000) only [go_sem, simprocAttr]
          rw [List.map_append]; rfl
        · simp (maxSteps := 400000) only [hnx, List.length_append, List.length_singleton, go_sem, simprocAttr])
theorem nRefWithout (t : HrTest) (i : Nat) (hi : i < t.marks.length) (h2l : 2 ≤ t.marks.length) (hlen : t.marks.length ≤ 10) : PCallN Tryz.prog 25 [t.pv, .int .i64 i] (wo t i).pv := by
  refine pcallN_of_wp draws (fn := Tryz.f25) (n := 19) (rs := [.cell 4 33]) (by kernel_rfl) rfl rfl rfl ok25 (Nat.le_of_ble_eq_true rfl) ?_
  have h0 : (0 : Int) ≤ (i : Int) := by omega
  have h1 : (i : Int) ≤ (t.marks.length : Int) := by omega
  have hn1 : IntKind.i64.wrap ((i : Int) + 1) = ((i + 1 : Nat) : Int) := wrap_add (by omega) (by simp [room]; omega) (by simp)
  have h2 : ((i + 1 : Nat) : Int) ≤ (t.marks.length : Int) := by omega
  have hsp : (wo t i).pv = .agg [.int .i64 t.kind, .int .i64 t.error, .slice 2 ((t.marks.take i ++ t.marks.drop (i + 1)).map HrMark.pv) false] := by
    simp only [wo, HrTest.pv, List.eraseIdx_eq_take_drop_succ]
  rw [hsp]
  have hA : List.take i (List.map HrMark.pv t.marks) = (t.marks.take i).map HrMark.pv := by rw [List.map_take]
  have hB : List.drop (i + 1) (List.map HrMark.pv t.marks) = (t.marks.drop (i + 1)).map HrMark.pv := by rw [List.map_drop]
  have hfz : ∀ n h (l : List HrMark), frzList (frzF n h) (List.map AV.p (List.map HrMark.pv l)) = some (l.map HrMark.pv) := fun n h l => by
    rw [show List.map AV.p (List.map HrMark.pv l) = l.map fun x => AV.p (HrMark.pv x) by simp]; exact frzListF_map n h HrMark.pv (fun _ => rfl) l
  have hAl : (t.marks.take i).length ≤ room := by simp [room]; omega
  have hBl : (t.marks.drop (i + 1)).length ≤ room := by simp [room]; omega
  have hABl : (t.marks.take i).length + (t.marks.drop (i + 1)).length ≤ room := by rw [List.length_take, List.length_drop, show room = 274877906944 from rfl]; omega
  have hne : (t.marks.take i).length + (t.marks.drop (i + 1)).length ≠ 0 := by rw [List.length_take, List.length_drop]; omega
  generalize t.marks.take i = A at *
  generalize t.marks.drop (i + 1) = B at *
  cases A with
  | nil =>
    cases B with
    | nil => simp at hne
    | cons b B =>
      simp only [List.length_nil, List.length_cons, Nat.zero_add] at hAl hBl hABl
      simp (maxSteps := 400000) only [h0, h1, h2, hn1, hA, hB, hAl, hBl, hABl, H25, W_drawH, hfz, go_sem, simprocAttr]
      exact .inl ⟨[], rfl⟩
  | cons a A =>
    cases B with
    | nil =>
      simp only [List.length_nil, List.length_cons, Nat.add_zero] at hAl hBl hABl
      simp (maxSteps := 400000) only [h0, h1, h2, hn1, hA, hB, hAl, hBl, hABl, H25, W_drawH, Nat.add_zero, List.append_nil, hfz, go_sem, simprocAttr]
      exact .inl ⟨_, rfl⟩
    | cons b B =>
      have hap : List.map AV.p (List.map HrMark.pv A) ++ AV.p (.agg [.int .i64 b.minute, .int .i64 b.weight]) :: List.map AV.p (List.map HrMark.pv B) = List.map AV.p (List.map HrMark.pv (A ++ b :: B)) := by simp [HrMark.pv]
      have hal : (A ++ b :: B).length + 1 = A.length + 1 + (B.length + 1) := by simp; omega
      have htk : List.take (A.length + (B.length + 1)) (List.map HrMark.pv (A ++ b :: B)) = List.map HrMark.pv (A ++ b :: B) := List.take_of_length_le (by simp)
      simp only [List.length_nil, List.length_cons] at hAl hBl hABl
      simp (maxSteps := 400000) only [h0, h1, h2, hn1, hA, hB, hAl, hBl, hABl, H25, W_drawH, Nat.add_zero, hap, hfz, hal, go_sem, simprocAttr]
      refine ⟨.inl ⟨_, rfl⟩, ?_⟩
      rw [List.take_of_length_le (by simp; omega)]
end Abs
end Go.Proofs.YtdellinghbppgaaGreatDoor
