/-
  CONTRACTS: the text of a test, in the program and in the reference. No conditions but those in the theorems' heads.
-/
import Derived.Test.YtdellinghbppgaaGreatDoorHrBox
namespace Go.Proofs.YtdellinghbppgaaGreatDoor
namespace Abs
set_option linter.unusedSimpArgs false
set_option linter.unusedVariables false
set_option maxRecDepth 4000

/-- a call behind a barrier of a region of any order -/
theorem WDB_ret {P : Program} {H : Hints} {ops : Array Oper} {rest : List Oper} {Q : Cont} {o : Oper} {A : AAct} {f : FuncId} {args : List AV} {v : AV} {h' : Heap} (hc : HCall P f args A.h (fun r h => r = .ret v ∧ h = h'))
    (h1 : @WD ⟨P, H, ops, rest, Q⟩ (A.put o.dst v h').h (A.put o.dst v h')) : @WDB ⟨P, H, ops, rest, Q, o⟩ A (.call f args) :=
  hc.mono fun r h hr => by
    obtain ⟨rfl, rfl⟩ := hr
    exact h1

/-! numbers as digits -/
def dec (n : Int) : List UInt8 := Lib.decDigits n.toNat
theorem dec_len_le : ∀ (k n : Nat), n < 10 ^ (k + 1) → (Lib.decDigits n).length ≤ k + 1
  | 0, n, h => by rw [Lib.decDigits, dif_pos (by simpa using h)]; simp
  | k + 1, n, h => by
    rw [Lib.decDigits]
    split
    · simp
    · have := dec_len_le k (n / 10) (by rw [Nat.pow_succ] at h; omega)
      simp; omega
theorem decl_le {n : Int} (_ : 0 ≤ n) (h1 : n ≤ 10000000) : (dec n).length ≤ 8 := dec_len_le 7 _ (by omega)
theorem itoa_dec {n : Int} (h0 : 0 ≤ n) : itoaB n = bs (dec n) := by
  have : Lib.itoa n = dec n := by rw [Lib.itoa, if_neg (by omega)]; rfl
  rw [itoaB, this]; rfl

/-! what is written -/
def hdr : List UInt8 := [116, 101, 115, 116, 32]
def sp : List UInt8 := [32]
def nl : List UInt8 := [10]
def lineL0 (nm : List UInt8) (e : Int) : List UInt8 := hdr ++ nm ++ sp ++ dec e ++ nl
def lineL (m : HrMark) : List UInt8 := dec m.minute ++ sp ++ dec m.weight ++ nl
def textL (s : HrShop) (t : HrTest) : List UInt8 := lineL0 (((s.kinds[t.kind.toNat]?).map fun k => k.name.data.toList).getD []) t.error ++ (t.marks.map lineL).flatten
theorem lineL_ne (m : HrMark) : lineL m ≠ [] := by simp [lineL, nl]
theorem nameOk_len {b : ByteArray} (h : nameOk b = true) : b.size ≤ 20 := by
  unfold nameOk at h
  simp at h
  omega
/-! a builder of one's own -/
theorem bytesA_append (a b : ByteArray) : bytesA a ++ bytesA b = bytesA (a ++ b) := by
  have : (a ++ b).data.toList = a.data.toList ++ b.data.toList := by simp
  unfold bytesA
  rw [this, List.map_append]
theorem hWriteFirst {h : Heap} {i : Nat} {s : ByteArray} (hi : h[i]? = some (.bld 141 5 (.p .nilslice))) (hs : s.size ≤ 1000000) (h0 : s.size ≠ 0) :
    HCall Tryz.prog 89 [.ref .bl i, .p (.str s)] h (fun r h' => r = .ret (.p (.tuple [.int .i64 s.size, .niliface])) ∧
      h' = (h ++ [AObj.row 1 (bytesA s)]).set i (.bld 141 5 (.slice h.length s.size 0 s.size))) := by
  have hil := (List.getElem?_eq_some_iff.1 hi).1
  refine hBldWrite (x' := .slice h.length s.size 0 s.size) hi (by simp [room]; omega) (.inl rfl) ?_ (by rw [List.getElem?_append_left hil]; exact hi) (.inr ⟨_, _, rfl⟩)
  have hne : ¬ (List.map (fun b : UInt8 => AV.p (PV.int .u8 (b.toNat : Int))) s.data.toList = []) := fun h => h0 (by have := congrArg List.length h; simpa using this)
  have hrm : s.size ≤ room := by simp [room]; omega
  have hl : s.data.size = s.size := rfl
  simp (maxSteps := 400000) only [hne, hrm, Array.length_toList, hl, bytesA, go_sem, simprocAttr]
  rw [if_neg (by simp)]
theorem hWriteNext {h : Heap} {i j n : Nat} {xs : List AV} {s : ByteArray} (hi : h[i]? = some (.bld 141 5 (.slice j n 0 n))) (hj : h[j]? = some (.row 1 xs)) (hn : xs.length = n) (hij : i ≠ j) (hs : n + s.size ≤ 1000000) :
    HCall Tryz.prog 89 [.ref .bl i, .p (.str s)] h (fun r h' => r = .ret (.p (.tuple [.int .i64 s.size, .niliface])) ∧
      h' = (h.set j (.row 1 (xs ++ bytesA s))).set i (.bld 141 5 (.slice j (n + s.size) 0 (n + s.size)))) := by
  refine hBldWrite (x' := .slice j (n + s.size) 0 (n + s.size)) hi (by simp [room]; omega) (.inr ⟨j, n, xs, rfl, hj, hn, by simp [room]; omega⟩) ?_ (by rw [List.getElem?_set_ne hij.symm]; exact hi) (.inr ⟨_, _, rfl⟩)
  have hrm : n + s.size ≤ room := by simp [room]; omega
  have hl : s.data.size = s.size := rfl
  simp (maxSteps := 400000) only [hj, hn, hrm, Array.length_toList, hl, bytesA, go_sem, simprocAttr]
  rw [if_neg (by simp)]
set_option maxHeartbeats 2000000 in
theorem cText (s : HrShop) (t : HrTest) (hc : (hrCheck s).2.2 = 0) (ht : hrTestErr s.kinds.length t = 0) : PCall Tryz.prog 53 [s.pv, t.pv] (.str (bs (textL s t))) := by
  obtain ⟨hok, k0, k1⟩ := testErr_ok ht
  obtain ⟨n, hn⟩ := Int.eq_ofNat_of_zero_le k0
  have hnl : n < s.kinds.length := by omega
  obtain ⟨k, hk⟩ : ∃ k, s.kinds[n]? = some k := ⟨_, List.getElem?_eq_getElem hnl⟩
  have hko := kindOk_of hc (List.mem_of_getElem? hk)
  have hks := nameOk_len hko.name
  obtain ⟨nm, hnm⟩ : ∃ nm, k.name = bs nm := ⟨_, (bs_eta _).symm⟩
  have hsp : textL s t = lineL0 nm t.error ++ (t.marks.map lineL).flatten := by rw [textL, hn, Int.toNat_natCast, hk, Option.map_some, Option.getD_some, hnm, bs_data]
  rw [hnm, bs_size] at hks
  have hlt : (n : Int) < (s.kinds.length : Int) := by omega
  have he := hok.err
  have hel := decl_le he.1 (by omega)
  have hit := itoa_dec he.1
  have l1 : hdr.length = 5 := rfl
  have l2 : sp.length = 1 := rfl
  have l3 : nl.length = 1 := rfl
  have r1 : (bs hdr).size + (bs nm).size ≤ strRoom := by simp [bs_size, strRoom, l1]; omega
  have r2 : (bs (hdr ++ nm)).size + (bs sp).size ≤ strRoom := by simp [bs_size, strRoom, l1, l2]; omega
  have r3 : (bs (hdr ++ nm ++ sp)).size + (bs (dec t.error)).size ≤ strRoom := by simp [bs_size, strRoom, l1, l2]; omega
  have r4 : (bs (hdr ++ nm ++ sp ++ dec t.error)).size + (bs nl).size ≤ strRoom := by simp [bs_size, strRoom, l1, l2, l3]; omega
  have c1 : (⟨#[116, 101, 115, 116, 32]⟩ : ByteArray) = bs hdr := rfl
  have c2 : (⟨#[32]⟩ : ByteArray) = bs sp := rfl
  have c3 : (⟨#[10]⟩ : ByteArray) = bs nl := rfl
  have hA : hdr ++ nm ++ sp ++ dec t.error ++ nl = lineL0 nm t.error := rfl
  have hAl : (lineL0 nm t.error).length ≤ 40 := by simp [lineL0, l1, l2, l3]; omega
  have hA0 : (lineL0 nm t.error).length ≠ 0 := by simp [lineL0, l1]
  generalize lineL0 nm t.error = A at hsp hA hAl hA0
  refine pcall_of_wp draws (fn := Tryz.f53) (n := 42) (rs := [.tmp 4]) (by kernel_rfl) rfl rfl rfl ok53 (Nat.le_of_ble_eq_true rfl) ?_
  simp (maxSteps := 400000) only [H53, W_drawH, hn, hlt, hk, hnm, c1, c2, c3, r1, r2, bs_append, go_sem, simprocAttr]
  refine WDQ_pure (cItoa t.error (by omega) (by omega)) rfl ?_
  simp (maxSteps := 400000) only [H53, W_drawH, hit, r3, r4, c3, bs_append, hA, go_sem, simprocAttr]
  refine WDB_ret (hWriteFirst (s := bs A) rfl (by rw [bs_size]; omega) (by rw [bs_size]; exact hA0)) ?_
  simp (maxSteps := 400000) only [H53, W_drawH, bs_size, go_sem, simprocAttr]
  refine W_loopK [5, 24, 25] (σ := List HrMark × List HrMark × List UInt8 × Heap)
    (fun q => t.marks = q.1 ++ q.2.1 ∧ textL s t = q.2.2.1 ++ (q.2.1.map lineL).flatten ∧ q.2.2.1.length ≤ 40 + 18 * q.1.length ∧ q.2.2.1.length ≠ 0) (fun q => q.2.1.length)
    (fun q => [(26, .p (.int .i64 q.1.length))])
    (fun q => [.row 3 [.p s.pv], .row 3 [.p t.pv], .bld 141 5 (.slice 3 q.2.2.1.length 0 q.2.2.1.length), .row 1 (bytesA (bs q.2.2.1))] ++ q.2.2.2) ([], t.marks, A, []) ⟨rfl, hsp, hAl, hA0⟩ (by simp (maxSteps := 400000) only [hn, List.append_nil, go_sem, simprocAttr]) ?_ ?_
  · simp (maxSteps := 400000) only [go_sem, simprocAttr]
  rintro ⟨done, rest, acc, g⟩ ⟨e1, e2, e3, e4⟩
  dsimp only at e1 e2 e3 e4
  cases rest with
  | nil =>
    have hlt2 : ¬ ((done.length : Int) < (t.marks.length : Int)) := by rw [e1]; simp
    rw [List.map_nil, List.flatten_nil, List.append_nil] at e2
    have hml := hok.len
    have hdl := congrArg List.length e1
    simp only [List.length_append, List.length_nil] at hdl
    simp (maxSteps := 400000) only [hlt2, decide_false, e2, H53, W_drawH, go_sem, simprocAttr]
    have hsz := bs_size acc
    refine WF_ret (hBldString (j := 3) (s := bs acc) (by rw [hsz]; rfl) rfl (by rw [hsz]; exact e4) (by rw [hsz]; omega)) ?_
    simp (maxSteps := 400000) only [go_sem, simprocAttr]
    rw [e2]
  | cons m rest =>
    obtain ⟨hx, hltt⟩ := list_at e1
    have hml := hok.len
    have hdl := congrArg List.length e1
    simp only [List.length_append, List.length_cons] at hdl
    have hnx : IntKind.i64.wrap ((done.length : Int) + 1) = (((done ++ [m]).length : Nat) : Int) := wrap_add (by omega) (by simp [room]; omega) (by simp)
    have hm := hok.all m (by rw [e1]; simp)
    have hd1 := decl_le hm.1 (by omega)
    have hd2 := decl_le hm.2.2.1 (by omega)
    have i1 := itoa_dec hm.1
    have i2 := itoa_dec hm.2.2.1
    have q1 : (bs (dec m.minute)).size + (bs sp).size ≤ strRoom := by simp [bs_size, strRoom, l2]; omega
    have q2 : (bs (dec m.minute ++ sp)).size + (bs (dec m.weight)).size ≤ strRoom := by simp [bs_size, strRoom, l2]; omega
    have q3 : (bs (dec m.minute ++ sp ++ dec m.weight)).size + (bs nl).size ≤ strRoom := by simp [bs_size, strRoom, l2, l3]; omega
    have hB : dec m.minute ++ sp ++ dec m.weight ++ nl = lineL m := rfl
    have hBl : (lineL m).length ≤ 18 := by simp [lineL, l2, l3]; omega
    rw [List.map_cons, List.flatten_cons] at e2
    have g0 := hap_g0 (lo := g) rfl
    have s0 := hap_s0 (lo := g) rfl
    simp (maxSteps := 400000) only [hltt, decide_true, hx, g0, s0, H53, W_drawH, List.append_nil, go_sem, simprocAttr]
    refine WDQ_pure (cItoa m.minute (by omega) (by omega)) rfl ?_
    simp (maxSteps := 400000) only [H53, W_drawH, i1, c2, q1, bs_append, g0, List.append_nil, go_sem, simprocAttr]
    refine WDQ_pure (cItoa m.weight (by omega) (by omega)) rfl ?_
    simp (maxSteps := 400000) only [H53, W_drawH, i2, c3, q2, q3, bs_append, hB, List.append_nil, go_sem, simprocAttr]
    refine WDB_ret (hWriteNext (s := bs (lineL m)) (j := 3) rfl rfl (by rw [bytesA_len, bs_size]) (by decide) (by rw [bs_size]; omega)) ?_
    simp (maxSteps := 400000) only [H53, W_drawH, bs_size, bytesA_append, bs_append, go_sem, simprocAttr]
    refine WQ_headK (done ++ [m], rest, acc ++ lineL m, g ++ [.row 2 [.p m.pv]]) ⟨by rw [e1]; simp, by rw [e2]; simp, by show (acc ++ lineL m).length ≤ 40 + 18 * (done ++ [m]).length; simp only [List.length_append, List.length_singleton]; omega, by show (acc ++ lineL m).length ≠ 0; simp only [List.length_append]; omega⟩ (Nat.lt_succ_self _) (by simp (maxSteps := 400000) only [List.length_append, go_sem, simprocAttr]) ?_
    simp (maxSteps := 400000) only [hnx, go_sem, simprocAttr]

/-! the reference -/
theorem cDigitsI {n : Int} (h0 : 0 ≤ n) (h1 : n < 1000000000) : PCall Tryz.prog 92 [.int .i64 n] (.str (bs (dec n))) := by
  obtain ⟨m, rfl⟩ := Int.eq_ofNat_of_zero_le h0
  exact cDigits m (by omega)
set_option maxHeartbeats 2000000 in
theorem cRefText (s : HrShop) (t : HrTest) (hc : (hrCheck s).2.2 = 0) (ht : hrTestErr s.kinds.length t = 0) : PCall Tryz.prog 54 [s.pv, t.pv] (.str (bs (textL s t))) := by
  obtain ⟨hok, k0, k1⟩ := testErr_ok ht
  obtain ⟨n, hn⟩ := Int.eq_ofNat_of_zero_le k0
  have hnl : n < s.kinds.length := by omega
  obtain ⟨k, hk⟩ : ∃ k, s.kinds[n]? = some k := ⟨_, List.getElem?_eq_getElem hnl⟩
  have hko := kindOk_of hc (List.mem_of_getElem? hk)
  have hks := nameOk_len hko.name
  obtain ⟨nm, hnm⟩ : ∃ nm, k.name = bs nm := ⟨_, (bs_eta _).symm⟩
  have hsp : textL s t = lineL0 nm t.error ++ (t.marks.map lineL).flatten := by rw [textL, hn, Int.toNat_natCast, hk, Option.map_some, Option.getD_some, hnm, bs_data]
  rw [hnm, bs_size] at hks
  have hlt : (n : Int) < (s.kinds.length : Int) := by omega
  have he := hok.err
  have hel := decl_le he.1 (by omega)
  have l1 : hdr.length = 5 := rfl
  have l2 : sp.length = 1 := rfl
  have l3 : nl.length = 1 := rfl
  have r1 : (bs hdr).size + (bs nm).size ≤ strRoom := by simp [bs_size, strRoom, l1]; omega
  have r2 : (bs (hdr ++ nm)).size + (bs sp).size ≤ strRoom := by simp [bs_size, strRoom, l1, l2]; omega
  have r3 : (bs (hdr ++ nm ++ sp)).size + (bs (dec t.error)).size ≤ strRoom := by simp [bs_size, strRoom, l1, l2]; omega
  have r4 : (bs (hdr ++ nm ++ sp ++ dec t.error)).size + (bs nl).size ≤ strRoom := by simp [bs_size, strRoom, l1, l2, l3]; omega
  have c1 : (⟨#[116, 101, 115, 116, 32]⟩ : ByteArray) = bs hdr := rfl
  have c2 : (⟨#[32]⟩ : ByteArray) = bs sp := rfl
  have c3 : (⟨#[10]⟩ : ByteArray) = bs nl := rfl
  have hA : hdr ++ nm ++ sp ++ dec t.error ++ nl = lineL0 nm t.error := rfl
  have hAl : (lineL0 nm t.error).length ≤ 40 := by simp [lineL0, l1, l2, l3]; omega
  have hml := hok.len
  generalize lineL0 nm t.error = A at hsp hA hAl
  refine pcall_of_wp draws (fn := Tryz.f54) (n := 48) (rs := [.tmp 4]) (by kernel_rfl) rfl rfl rfl ok54 (Nat.le_of_ble_eq_true rfl) ?_
  simp (maxSteps := 400000) only [hn, hlt, hk, hnm, c1, c2, c3, r1, r2, bs_append, go_sem, simprocAttr]
  refine WDQ_pure (cDigitsI he.1 (by omega)) rfl ?_
  simp (maxSteps := 400000) only [r3, r4, c3, bs_append, hA, go_sem, simprocAttr]
  refine W_loopA [3] (σ := List HrMark × List HrMark × List UInt8)
    (fun q => t.marks = q.1 ++ q.2.1 ∧ textL s t = q.2.2 ++ (q.2.1.map lineL).flatten ∧ q.2.2.length ≤ 40 + 18 * q.1.length) (fun q => q.2.1.length)
    (fun q => [(5, .p (.str (bs q.2.2))), (6, .p (.int .i64 q.1.length))])
    (fun q => [.row 3 [.p s.pv], .row 3 [.p t.pv]]) ([], t.marks, A) ⟨rfl, hsp, hAl⟩ ?_ ?_
  · simp (maxSteps := 400000) only [hn, go_sem, simprocAttr]
  rintro ⟨done, rest, acc⟩ ⟨e1, e2, e3⟩
  dsimp only at e1 e2 e3
  cases rest with
  | nil =>
    have hlt2 : ¬ ((done.length : Int) < (t.marks.length : Int)) := by rw [e1]; simp
    rw [List.map_nil, List.flatten_nil, List.append_nil] at e2
    simp (maxSteps := 400000) only [hlt2, decide_false, e2, go_sem, simprocAttr]
  | cons m rest =>
    obtain ⟨hx, hltt⟩ := list_at e1
    have hdl := congrArg List.length e1
    simp only [List.length_append, List.length_cons] at hdl
    have hnx : IntKind.i64.wrap ((done.length : Int) + 1) = (((done ++ [m]).length : Nat) : Int) := wrap_add (by omega) (by simp [room]; omega) (by simp)
    have hm := hok.all m (by rw [e1]; simp)
    have hd1 := decl_le hm.1 (by omega)
    have hd2 := decl_le hm.2.2.1 (by omega)
    have q0 : (bs acc).size + (bs (dec m.minute)).size ≤ strRoom := by simp [bs_size, strRoom]; omega
    have q1 : (bs (acc ++ dec m.minute)).size + (bs sp).size ≤ strRoom := by simp [bs_size, strRoom, l2]; omega
    have q2 : (bs (acc ++ dec m.minute ++ sp)).size + (bs (dec m.weight)).size ≤ strRoom := by simp [bs_size, strRoom, l2]; omega
    have q3 : (bs (acc ++ dec m.minute ++ sp ++ dec m.weight)).size + (bs nl).size ≤ strRoom := by simp [bs_size, strRoom, l2, l3]; omega
    have hB : acc ++ dec m.minute ++ sp ++ dec m.weight ++ nl = acc ++ lineL m := by simp [lineL]
    have hBl : (lineL m).length ≤ 18 := by simp [lineL, l2, l3]; omega
    rw [List.map_cons, List.flatten_cons] at e2
    simp (maxSteps := 400000) only [hltt, decide_true, hx, go_sem, simprocAttr]
    refine WDQ_pure (cDigitsI hm.1 (by omega)) rfl ?_
    simp (maxSteps := 400000) only [hltt, hx, c2, q0, q1, bs_append, go_sem, simprocAttr]
    refine WDQ_pure (cDigitsI hm.2.2.1 (by omega)) rfl ?_
    simp (maxSteps := 400000) only [c3, q2, q3, bs_append, hB, go_sem, simprocAttr]
    refine WQ_headA (done ++ [m], rest, acc ++ lineL m) ⟨by rw [e1]; simp, by rw [e2]; simp, by show (acc ++ lineL m).length ≤ 40 + 18 * (done ++ [m]).length; simp only [List.length_append, List.length_singleton]; omega⟩ (Nat.lt_succ_self _) ?_
    simp (maxSteps := 400000) only [hnx, go_sem, simprocAttr]

/-! Write -/
def hrWrite (s : HrShop) (t : HrTest) : ByteArray × Int := if hrOpen s [t] = 0 then (bs (textL s t), 0) else (⟨#[]⟩, hrOpen s [t])
theorem cWrite (s : HrShop) (t : HrTest) : PCall Tryz.prog 17 [s.pv, t.pv] (.tuple [.str (hrWrite s t).1, .int .i64 (hrWrite s t).2]) := by
  refine pcall_of_wp draws (fn := Tryz.f17) (n := 17) (rs := [.tmp 4, .tmp 5]) (by kernel_rfl) rfl rfl rfl ok17 (Nat.le_of_ble_eq_true rfl) ?_
  simp (maxSteps := 400000) only [go_sem, simprocAttr]
  refine WF_frz (cHrOpen s [t] true (by simp)) (by simp (maxSteps := 400000) only [go_sem, simprocAttr]) (.int _ _) ?_
  simp (maxSteps := 400000) only [go_sem, simprocAttr]
  cases h0 : (hrOpen s [t] != 0)
  rotate_left
  · have h0' : ¬ hrOpen s [t] = 0 := by simpa using h0
    simp (maxSteps := 400000) only [hrWrite, if_neg h0', go_sem, simprocAttr]
  have h0' : hrOpen s [t] = 0 := by simpa using h0
  have hok := open_ok h0'
  simp (maxSteps := 400000) only [go_sem, simprocAttr]
  refine WF_pure (cText s t hok.1 hok.2) rfl ?_
  simp (maxSteps := 400000) only [hrWrite, if_pos h0', go_sem, simprocAttr]
theorem cRefWrite (s : HrShop) (t : HrTest) : PCall Tryz.prog 18 [s.pv, t.pv] (.tuple [.str (hrWrite s t).1, .int .i64 (hrWrite s t).2]) := by
  refine pcall_of_wp draws (fn := Tryz.f18) (n := 16) (rs := [.tmp 4, .tmp 5]) (by kernel_rfl) rfl rfl rfl ok18 (Nat.le_of_ble_eq_true rfl) ?_
  simp (maxSteps := 400000) only [go_sem, simprocAttr]
  refine WF_pure (cRefTest s t) rfl ?_
  simp (maxSteps := 400000) only [go_sem, simprocAttr]
  cases h0 : (hrOpen s [t] != 0)
  rotate_left
  · have h0' : ¬ hrOpen s [t] = 0 := by simpa using h0
    simp (maxSteps := 400000) only [hrWrite, if_neg h0', go_sem, simprocAttr]
  have h0' : hrOpen s [t] = 0 := by simpa using h0
  have hok := open_ok h0'
  simp (maxSteps := 400000) only [go_sem, simprocAttr]
  refine WF_pure (cRefText s t hok.1 hok.2) rfl ?_
  simp (maxSteps := 400000) only [hrWrite, if_pos h0', go_sem, simprocAttr]
end Abs
end Go.Proofs.YtdellinghbppgaaGreatDoor
