/-
  CONTRACTS: the reference's number, Read, Equal. No conditions but those in the theorems' heads.
  PLAIN LAWS: what is written is read. No program in sight. No conditions but those in the theorems' heads.
-/
import Derived.Test.YtbojkcmohgbpaaaGreatDoorHrRead
namespace Go.Proofs.YtbojkcmohgbpaaaGreatDoor
namespace Abs
set_option linter.unusedSimpArgs false
set_option linter.unusedVariables false
set_option maxRecDepth 4000
def numR (l : List UInt8) : Int := if gIn (l.length : Int) 1 8 = true then (match Lib.decFrom 0 l with | some n => (n : Int) | none => -1) else -1
def eqT (a b : HrTest) : Bool := (a.kind == b.kind) && (a.error == b.error) && decide (a.marks = b.marks)
theorem eqT_iff (a b : HrTest) : eqT a b = true ↔ a = b := by
  cases a; cases b
  simp [eqT, and_assoc]
theorem mark_eq (x y : HrMark) : ((x.minute == y.minute) && (x.weight == y.weight)) = decide (x = y) := by
  cases x; cases y
  rw [Bool.eq_iff_iff]; simp
theorem cEqual (a b : HrTest) (ha : a.marks.length < 1000000000) : PCall Tryz.prog 38 [a.pv, b.pv] (.bool (eqT a b)) := by
  refine pcall_of_wp draws (fn := Tryz.f38) (n := 45) (rs := [.tmp 4]) (by kernel_rfl) rfl rfl rfl ok38 (Nat.le_of_ble_eq_true rfl) ?_
  simp (maxSteps := 400000) only [go_sem, simprocAttr]
  cases h1 : (a.kind != b.kind)
  rotate_left
  · have h1' : (a.kind == b.kind) = false := by simpa [bne] using h1
    simp (maxSteps := 400000) only [eqT, h1', go_sem, simprocAttr]
  have h1' : (a.kind == b.kind) = true := by simpa [bne] using h1
  simp (maxSteps := 400000) only [go_sem, simprocAttr]
  cases h2 : (a.error != b.error)
  rotate_left
  · have h2' : (a.error == b.error) = false := by simpa [bne] using h2
    simp (maxSteps := 400000) only [eqT, h1', h2', go_sem, simprocAttr]
  have h2' : (a.error == b.error) = true := by simpa [bne] using h2
  simp (maxSteps := 400000) only [go_sem, simprocAttr]
  cases h3 : ((a.marks.length : Int) != (b.marks.length : Int))
  rotate_left
  · have h3' : ¬ a.marks = b.marks := by
      intro h; rw [h] at h3; simp at h3
    simp (maxSteps := 400000) only [eqT, h1', h2', h3', decide_false, go_sem, simprocAttr]
  have h3' : a.marks.length = b.marks.length := by
    have : ((a.marks.length : Int)) = (b.marks.length : Int) := by simpa using h3
    omega
  have hsp : eqT a b = decide (a.marks = b.marks) := by rw [eqT, h1', h2']; rfl
  rw [hsp]
  simp (maxSteps := 400000) only [go_sem, simprocAttr]
  refine W_loopA [2, 3] (σ := List HrMark × List HrMark × List HrMark) (fun q => a.marks = q.1 ++ q.2.1 ∧ b.marks = q.1 ++ q.2.2) (fun q => q.2.1.length)
    (fun q => [(5, .p (.int .i64 q.1.length))]) (fun _ => [.row 3 [.p a.pv], .row 3 [.p b.pv]]) ([], a.marks, b.marks) ⟨rfl, rfl⟩ ?_ ?_
  · simp (maxSteps := 400000) only [go_sem, simprocAttr]
  rintro ⟨done, ra, rb⟩ ⟨e1, e2⟩
  dsimp only at e1 e2
  have hl1 := congrArg List.length e1
  have hl2 := congrArg List.length e2
  simp only [List.length_append] at hl1 hl2
  cases ra with
  | nil =>
    have hrb : rb = [] := by
      have : rb.length = 0 := by simp at hl1; omega
      exact List.length_eq_zero_iff.1 this
    have hlt : ¬ ((done.length : Int) < (a.marks.length : Int)) := by rw [e1]; simp
    have he : a.marks = b.marks := by rw [e1, e2, hrb]
    have hltb : ¬ ((done.length : Int) < (b.marks.length : Int)) := by rw [e2, hrb]; simp
    rw [show decide (a.marks = b.marks) = true by simpa using he]
    simp (maxSteps := 400000) only [hlt, hltb, decide_false, go_sem, simprocAttr]
  | cons x ra =>
    cases rb with
    | nil => simp at hl1 hl2; omega
    | cons y rb =>
      obtain ⟨hx, hlt⟩ := list_at e1
      obtain ⟨hy, hlt2⟩ := list_at e2
      have hnx : IntKind.i64.wrap ((done.length : Int) + 1) = (((done ++ [x]).length : Nat) : Int) := wrap_add (by omega) (by simp [room]; omega) (by simp)
      simp (maxSteps := 400000) only [hlt, decide_true, hx, hy, hlt2, mark_eq, go_sem, simprocAttr]
      cases h4 : decide (x = y)
      · have h4' : ¬ x = y := by simpa using h4
        have he : ¬ a.marks = b.marks := by
          rw [e1, e2]; intro h
          have := List.append_cancel_left h
          exact h4' (List.cons.inj this).1
        rw [show decide (a.marks = b.marks) = false by simpa using he]
        simp (maxSteps := 400000) only [go_sem, simprocAttr]
      · have h4' : x = y := by simpa using h4
        subst h4'
        simp (maxSteps := 400000) only [go_sem, simprocAttr]
        refine WQ_headA (done ++ [x], ra, rb) ⟨by rw [e1]; simp, by rw [e2]; simp⟩ (Nat.lt_succ_self _) ?_
        simp (maxSteps := 400000) only [hnx, go_sem, simprocAttr]
theorem PCall.arglessD {P : Program} {f : FuncId} {args args' : List PV} {v : PV} (hc : PCall P f args v) (h : PLs args' args) : PCall P f args' v := by
  intro M0 w cargs hM hg ha
  obtain ⟨h1, h2⟩ := h.get
  refine hc M0 w cargs hM hg ⟨by rw [ha.1, h1], fun i c hi => ?_⟩
  obtain ⟨q, hq⟩ : ∃ q, args'[i]? = some q := ⟨_, List.getElem?_eq_getElem (by rw [h1]; exact (List.getElem?_eq_some_iff.1 hi).1)⟩
  exact (h2 i q c hq hi).rep (ha.2 i q hq)
theorem nilTest (k e : Int) : PL (.agg [.int .i64 k, .int .i64 e, .nilslice]) (HrTest.pv ⟨k, e, []⟩) := .aggL rfl ⟨.refl _, .refl _, .nil 2, trivial⟩
def lastIdx (nm : ByteArray) : List HrKind → Nat → Int → Int
  | [], _, acc => acc
  | k :: r, i, acc => lastIdx nm r (i + 1) (if k.name == nm then (i : Int) else acc)
def stepR (s : HrShop) (first : Bool) (t : HrTest) (p : List UInt8) : HrTest :=
  match first, splitL 32 p with
  | true, [_, w1, w2] => ⟨lastIdx (bs w1) s.kinds 0 t.kind, numR w2, t.marks⟩
  | false, [w0, w1] => ⟨t.kind, t.error, t.marks ++ [⟨numR w0, numR w1⟩]⟩
  | _, _ => t
def rowsR (s : HrShop) : Bool → HrTest → List (List UInt8) → HrTest
  | _, t, [] => t
  | _, t, [_] => t
  | f, t, p :: q :: r => rowsR s false (stepR s f t p) (q :: r)
def parseR (s : HrShop) (all : List UInt8) : HrTest := rowsR s true ⟨-1, 0, []⟩ (splitL 10 all)
end Abs
end Go.Proofs.YtbojkcmohgbpaaaGreatDoor
namespace Go.Proofs.YtbojkcmohgbpaaaGreatDoor
namespace Abs
set_option linter.unusedSimpArgs false
set_option linter.unusedVariables false
theorem cutL_at {c : UInt8} : ∀ {a : List UInt8} (b : List UInt8), c ∉ a → cutL c (a ++ c :: b) = (a, some b)
  | [], b, _ => by simp [cutL]
  | x :: a, b, h => by
    have hx : ¬ x = c := fun e => h (by simp [e])
    have ih := cutL_at (a := a) b (fun hm => h (List.mem_cons_of_mem _ hm))
    rw [List.cons_append, cutL, if_neg hx, ih]
theorem cutL_no {c : UInt8} : ∀ {a : List UInt8}, c ∉ a → cutL c a = (a, none)
  | [], _ => rfl
  | x :: a, h => by
    have hx : ¬ x = c := fun e => h (by simp [e])
    have ih := cutL_no (a := a) (fun hm => h (List.mem_cons_of_mem _ hm))
    rw [cutL, if_neg hx, ih]
theorem splitL_at {c : UInt8} {a : List UInt8} (b : List UInt8) (h : c ∉ a) : splitL c (a ++ c :: b) = a :: splitL c b := by
  have h1 := cutL_at b h
  rw [splitL_some (r := b) (by rw [h1]), h1]
theorem splitL_no {c : UInt8} {a : List UInt8} (h : c ∉ a) : splitL c a = [a] := splitL_none (by rw [cutL_no h])
theorem trimL_snoc (c : UInt8) (l : List UInt8) : trimL c (l ++ [c]) = l := by simp [trimL]
theorem nameGo_chars : ∀ (l : List UInt8) (last : Int), nameGo l last = true → ∀ c, c ∈ l → c.toNat = 45 ∨ (97 ≤ c.toNat ∧ c.toNat ≤ 122)
  | [], _, _, c, h => by cases h
  | x :: l, last, h, c, hc => by
    rw [nameGo] at h
    split at h
    · cases h
    · rename_i hb
      rcases List.mem_cons.1 hc with rfl | hc
      · simp [badC] at hb
        omega
      · exact nameGo_chars l _ h c hc
theorem name_no {b : ByteArray} (h : nameOk b = true) : (10 : UInt8) ∉ b.data.toList ∧ (32 : UInt8) ∉ b.data.toList := by
  unfold nameOk at h
  rw [Bool.and_eq_true] at h
  have := nameGo_chars _ _ h.1
  refine ⟨fun hm => ?_, fun hm => ?_⟩
  · have := this _ hm; simp at this
  · have := this _ hm; simp at this
theorem dec_no (n : Int) : (10 : UInt8) ∉ dec n ∧ (32 : UInt8) ∉ dec n := by
  have := dec_digits n.toNat
  refine ⟨fun hm => ?_, fun hm => ?_⟩
  · have := this _ hm; simp at this
  · have := this _ hm; simp at this
def rowL (m : HrMark) : List UInt8 := dec m.minute ++ 32 :: dec m.weight
def joinR : List HrMark → List UInt8
  | [] => []
  | [m] => rowL m
  | m :: q :: r => rowL m ++ 10 :: joinR (q :: r)
theorem lineL_row (m : HrMark) : lineL m = rowL m ++ [10] := by simp [lineL, rowL, sp, nl]
theorem rowL_no (m : HrMark) : (10 : UInt8) ∉ rowL m := by
  have h1 := dec_no m.minute
  have h2 := dec_no m.weight
  simp [rowL, h1.1, h2.1]
theorem flat_join : ∀ (l : List HrMark), l ≠ [] → (l.map lineL).flatten = joinR l ++ [10]
  | [], h => absurd rfl h
  | [m], _ => by simp [joinR, lineL_row]
  | m :: q :: r, _ => by
    have ih := flat_join (q :: r) (by simp)
    rw [List.map_cons, List.flatten_cons, ih, lineL_row, joinR]
    simp
theorem split_join : ∀ (l : List HrMark), l ≠ [] → splitL 10 (joinR l) = l.map rowL
  | [], h => absurd rfl h
  | [m], _ => by rw [joinR, splitL_no (rowL_no m)]; rfl
  | m :: q :: r, _ => by
    have ih := split_join (q :: r) (by simp)
    rw [joinR, splitL_at _ (rowL_no m), ih]; rfl
theorem split_join_nl : ∀ (l : List HrMark), l ≠ [] → splitL 10 (joinR l ++ [10]) = l.map rowL ++ [[]]
  | [], h => absurd rfl h
  | [m], _ => by rw [joinR, splitL_at [] (rowL_no m)]; rfl
  | m :: q :: r, _ => by
    have ih := split_join_nl (q :: r) (by simp)
    rw [joinR, List.append_assoc, List.cons_append, splitL_at _ (rowL_no m), ih]; rfl
theorem cut_row (m : HrMark) : cutL 32 (rowL m) = (dec m.minute, some (dec m.weight)) := cutL_at _ (dec_no _).2
theorem split_row (m : HrMark) : splitL 32 (rowL m) = [dec m.minute, dec m.weight] := by
  rw [rowL, splitL_at _ (dec_no _).2, splitL_no (dec_no _).2]
theorem markRow_row {m : HrMark} (h : 0 ≤ m.minute ∧ m.minute ≤ 1000000 ∧ 0 ≤ m.weight ∧ m.weight ≤ 10000000) : markRow (rowL m) = some m := by
  simp only [markRow, cut_row, numL_dec h.1 (by omega), numL_dec h.2.2.1 h.2.2.2]
theorem rowsGo_rows : ∀ (l acc : List HrMark), (∀ m, m ∈ l → 0 ≤ m.minute ∧ m.minute ≤ 1000000 ∧ 0 ≤ m.weight ∧ m.weight ≤ 10000000) → rowsGo acc (l.map rowL) = some (acc ++ l)
  | [], acc, _ => by simp [rowsGo]
  | m :: l, acc, h => by
    rw [List.map_cons, rowsGo, markRow_row (h m (by simp))]
    dsimp only
    rw [rowsGo_rows l _ fun q hq => h q (by simp [hq])]
    simp
theorem numR_dec {n : Int} (h0 : 0 ≤ n) (h1 : n ≤ 10000000) : numR (dec n) = n := by
  obtain ⟨m, rfl⟩ := Int.eq_ofNat_of_zero_le h0
  have hl := decl_le h0 h1
  have hne : (dec (m : Int)).length ≠ 0 := fun h => decDigits_ne (m : Int).toNat (List.length_eq_zero_iff.1 h)
  have hg : gIn ((dec (m : Int)).length : Int) 1 8 = true := by simp [gIn]; omega
  have hf : Lib.decFrom 0 (dec (m : Int)) = some m := by unfold dec; rw [Int.toNat_natCast]; exact decFrom_dec m
  rw [numR, hg, hf]
  rfl
theorem lastIdx_no (nm : ByteArray) : ∀ (l : List HrKind) (i : Nat) (acc : Int), (∀ k, k ∈ l → ¬ k.name = nm) → lastIdx nm l i acc = acc
  | [], _, _, _ => rfl
  | k :: r, i, acc, h => by
    have hk : (k.name == nm) = false := Bool.eq_false_iff.2 fun he => h k (by simp) ((baBeq _ _).1 he)
    rw [lastIdx, hk]
    exact lastIdx_no nm r _ _ fun q hq => h q (by simp [hq])
theorem lastIdx_at (nm : ByteArray) : ∀ (a : List HrKind) (k : HrKind) (r : List HrKind) (i : Nat) (acc : Int), k.name = nm → (∀ q, q ∈ r → ¬ q.name = nm) → lastIdx nm (a ++ k :: r) i acc = ((i + a.length : Nat) : Int)
  | [], k, r, i, acc, h1, h2 => by
    have hk : (k.name == nm) = true := (baBeq _ _).2 h1
    rw [List.nil_append, lastIdx, hk, lastIdx_no nm r _ _ h2]
    simp
  | x :: a, k, r, i, acc, h1, h2 => by
    rw [List.cons_append, lastIdx, lastIdx_at nm a k r _ _ h1 h2]
    simp; omega
theorem idxF_at {α : Type} (p : α → Bool) : ∀ (a : List α) (k : α) (r : List α) (i : Nat), p k = true → (∀ q, q ∈ a → p q = false) → idxF p (a ++ k :: r) i = ((i + a.length : Nat) : Int)
  | [], k, r, i, h1, _ => by simp [idxF, h1]
  | x :: a, k, r, i, h1, h2 => by
    rw [List.cons_append, idxF, h2 x (by simp)]
    have := idxF_at p a k r (i + 1) h1 fun q hq => h2 q (by simp [hq])
    rw [if_neg (by simp), this]
    simp; omega
theorem kind_split {s : HrShop} (hc : (hrCheck s).2.2 = 0) {n : Nat} {k : HrKind} (hk : s.kinds[n]? = some k) :
    s.kinds = s.kinds.take n ++ k :: s.kinds.drop (n + 1) ∧ (s.kinds.take n).length = n ∧ (∀ q, q ∈ s.kinds.take n → ¬ q.name = k.name) ∧ ∀ q, q ∈ s.kinds.drop (n + 1) → ¬ q.name = k.name := by
  have hl := (List.getElem?_eq_some_iff.1 hk).1
  have h1 := List.drop_eq_getElem_cons hl
  rw [(List.getElem?_eq_some_iff.1 hk).2] at h1
  refine ⟨by rw [← h1, List.take_append_drop], by rw [List.length_take]; omega, fun q hq e => ?_, fun q hq e => ?_⟩
  · obtain ⟨i, hi⟩ := List.getElem?_of_mem hq
    rw [List.getElem?_take] at hi
    split at hi
    · rename_i hlt
      have := kinds_differ hc hi hk e
      omega
    · cases hi
  · obtain ⟨i, hi⟩ := List.getElem?_of_mem hq
    rw [List.getElem?_drop] at hi
    have := kinds_differ hc hi hk e
    omega
theorem rowsR_rows (s : HrShop) : ∀ (l : List HrMark) (k e : Int) (acc : List HrMark), (∀ m, m ∈ l → 0 ≤ m.minute ∧ m.minute ≤ 1000000 ∧ 0 ≤ m.weight ∧ m.weight ≤ 10000000) →
    rowsR s false ⟨k, e, acc⟩ (l.map rowL ++ [[]]) = ⟨k, e, acc ++ l⟩
  | [], k, e, acc, _ => by simp [rowsR]
  | m :: l, k, e, acc, h => by
    have hm := h m (by simp)
    have ih := rowsR_rows s l k e (acc ++ [m]) fun q hq => h q (by simp [hq])
    have hst : stepR s false ⟨k, e, acc⟩ (rowL m) = ⟨k, e, acc ++ [m]⟩ := by
      simp only [stepR, split_row, numR_dec hm.1 (show m.minute ≤ 10000000 by omega), numR_dec hm.2.2.1 hm.2.2.2]
    rw [List.map_cons, List.cons_append]
    cases hr : l.map rowL ++ [[]] with
    | nil => simp at hr
    | cons a b =>
      rw [rowsR, hst, ← hr, ih]
      simp
theorem parse_text {s : HrShop} {t : HrTest} (hc : (hrCheck s).2.2 = 0) (ht : hrTestErr s.kinds.length t = 0) : parseH s (textL s t) = some t ∧ parseR s (textL s t) = t := by
  obtain ⟨hok, k0, k1⟩ := testErr_ok ht
  obtain ⟨n, hn⟩ := Int.eq_ofNat_of_zero_le k0
  have hnl : n < s.kinds.length := by omega
  obtain ⟨k, hk⟩ : ∃ k, s.kinds[n]? = some k := ⟨_, List.getElem?_eq_getElem hnl⟩
  have hko := kindOk_of hc (List.mem_of_getElem? hk)
  obtain ⟨n10, n32⟩ := name_no hko.name
  obtain ⟨d10, d32⟩ := dec_no t.error
  have hms : t.marks ≠ [] := by intro h; have := hok.two; rw [h] at this; simp at this
  have htx : textL s t = ([116, 101, 115, 116] ++ 32 :: (k.name.data.toList ++ 32 :: dec t.error)) ++ 10 :: (joinR t.marks ++ [10]) := by
    rw [textL, hn, Int.toNat_natCast, hk, Option.map_some, Option.getD_some, flat_join _ hms]
    simp [lineL0, hdr, sp, nl]
  have hno : (10 : UInt8) ∉ ([116, 101, 115, 116] ++ 32 :: (k.name.data.toList ++ 32 :: dec t.error)) := by simp [n10, d10]
  have hcut : cutL 10 (textL s t) = ([116, 101, 115, 116] ++ 32 :: (k.name.data.toList ++ 32 :: dec t.error), some (joinR t.marks ++ [10])) := by rw [htx]; exact cutL_at _ hno
  have hwd : splitL 32 ([116, 101, 115, 116] ++ 32 :: (k.name.data.toList ++ 32 :: dec t.error)) = [[116, 101, 115, 116], k.name.data.toList, dec t.error] := by
    rw [splitL_at _ (by decide), splitL_at _ n32, splitL_no d32]
  obtain ⟨s1, s2, s3, s4⟩ := kind_split hc hk
  have hid : idxName s.kinds (bs k.name.data.toList) = t.kind := by
    rw [bs_eta, idxName, s1, idxF_at (fun q => q.name == k.name) _ k _ 0 ((baBeq _ _).2 rfl) (fun q hq => Bool.eq_false_iff.2 fun he => s3 q hq ((baBeq _ _).1 he)), s2, hn]
    simp
  have hli : lastIdx (bs k.name.data.toList) s.kinds 0 (-1) = t.kind := by
    rw [bs_eta, s1, lastIdx_at _ _ k _ 0 _ rfl s4, s2, hn]
    simp
  have hne := numL_dec hok.err.1 (by have := hok.err.2; omega)
  have hnr := numR_dec hok.err.1 (by have := hok.err.2; omega)
  refine ⟨?_, ?_⟩
  · have hw : wordsH (textL s t) = [[116, 101, 115, 116], k.name.data.toList, dec t.error] := by rw [wordsH, hcut]; exact hwd
    have hr : restH (textL s t) = joinR t.marks := by rw [restH, hcut]; exact trimL_snoc _ _
    rw [parseH, hw]
    dsimp only
    rw [hne, hr, split_join _ hms, rowsGo_rows _ _ hok.all, hid]
    rfl
  · have hsp : splitL 10 (textL s t) = ([116, 101, 115, 116] ++ 32 :: (k.name.data.toList ++ 32 :: dec t.error)) :: (t.marks.map rowL ++ [[]]) := by
      rw [htx, splitL_at _ hno, split_join_nl _ hms]
    have hst : stepR s true ⟨-1, 0, []⟩ ([116, 101, 115, 116] ++ 32 :: (k.name.data.toList ++ 32 :: dec t.error)) = ⟨t.kind, t.error, []⟩ := by
      simp only [stepR, hwd, hli, hnr]
    rw [parseR, hsp]
    cases hr : t.marks.map rowL ++ [[]] with
    | nil => simp at hr
    | cons a b =>
      rw [rowsR, hst, ← hr, rowsR_rows s _ _ _ _ hok.all]
      simp
theorem goodT_iff {s : HrShop} {all : List UInt8} {t : HrTest} : goodT s all t = true ↔ hrTestErr s.kinds.length t = 0 ∧ textL s t = all := by simp [goodT]
theorem open_nil (s : HrShop) : hrOpen s [] = (hrCheck s).2.2 := by
  unfold hrOpen
  split
  · rename_i h; rw [h]; rfl
  · rfl
theorem flat_len : ∀ l : List HrMark, (∀ m, m ∈ l → (lineL m).length ≤ 18) → (l.map lineL).flatten.length ≤ 18 * l.length
  | [], _ => by simp
  | m :: l, h => by
    have h1 := h m (by simp)
    have h2 := flat_len l fun q hq => h q (by simp [hq])
    rw [List.map_cons, List.flatten_cons, List.length_append, List.length_cons]
    omega
theorem text_len {s : HrShop} {t : HrTest} (hc : (hrCheck s).2.2 = 0) (ht : hrTestErr s.kinds.length t = 0) : (textL s t).length ≤ 300 := by
  obtain ⟨hok, k0, k1⟩ := testErr_ok ht
  obtain ⟨n, hn⟩ := Int.eq_ofNat_of_zero_le k0
  have hnl : n < s.kinds.length := by omega
  obtain ⟨k, hk⟩ : ∃ k, s.kinds[n]? = some k := ⟨_, List.getElem?_eq_getElem hnl⟩
  have hks := nameOk_len (kindOk_of hc (List.mem_of_getElem? hk)).name
  have hkl : k.name.data.toList.length = k.name.size := Array.length_toList
  have hel := decl_le hok.err.1 (by have := hok.err.2; omega)
  have hfl := flat_len t.marks fun m hm => by
    have h := hok.all m hm
    have h1 := decl_le h.1 (by omega)
    have h2 := decl_le h.2.2.1 (by omega)
    simp [lineL, sp, nl]; omega
  have hml := hok.len
  rw [textL, hn, Int.toNat_natCast, hk, Option.map_some, Option.getD_some, List.length_append]
  simp only [lineL0, hdr, sp, nl, List.length_append, List.length_cons, List.length_nil, hkl]
  omega
theorem read_text {s : HrShop} {t : HrTest} (hc : (hrCheck s).2.2 = 0) (ht : hrTestErr s.kinds.length t = 0) : hrReadH s (textL s t) = (t, 0) := by
  rw [hrReadH, open_nil, if_pos hc, if_neg (by have := text_len hc ht; omega), (parse_text hc ht).1]
  dsimp only
  rw [if_pos (goodT_iff.2 ⟨ht, rfl⟩)]
end Abs
end Go.Proofs.YtbojkcmohgbpaaaGreatDoor
