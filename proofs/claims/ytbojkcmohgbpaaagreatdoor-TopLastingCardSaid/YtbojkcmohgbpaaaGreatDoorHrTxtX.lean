/-
  CONTRACTS: the text of a test, in the program and in the reference. No conditions but those in the theorems' heads.
  CONTRACTS: strings.SplitSeq at one byte: the function that it returns, and what a call of that one comes to, whatever its rounds do. No conditions but those in the theorems' heads.
  CONTRACTS: numbers read out of texts; panics of the reader. No conditions but those in the theorems' heads.
-/
import Derived.Test.YtbojkcmohgbpaaaGreatDoorHrUseX
import Derived.Test.YtbojkcmohgbpaaaGreatDoorStrLibX
import Derived.Lib.AtoiTie
namespace Go.Proofs.YtbojkcmohgbpaaaGreatDoor
namespace Abs
set_option linter.unusedSimpArgs false
set_option linter.unusedVariables false
set_option maxRecDepth 4000
theorem WDB_ret {P : Program} {H : Hints} {ops : Array Oper} {rest : List Oper} {Q : Cont} {o : Oper} {A : AAct} {f : FuncId} {args : List AV} {v : AV} {h' : Heap} (hc : HCall P f args A.h (fun r h => r = .ret v ∧ h = h'))
    (h1 : @WD ⟨P, H, ops, rest, Q⟩ (A.put o.dst v h').h (A.put o.dst v h')) : @WDB ⟨P, H, ops, rest, Q, o⟩ A (.call f args) :=
  hc.mono fun r h hr => by
    obtain ⟨rfl, rfl⟩ := hr
    exact h1
def dec (n : Int) : List UInt8 := Lib.decDigits n.toNat
theorem dec_len_le : ∀ (k n : Nat), n < 10 ^ (k + 1) → (Lib.decDigits n).length ≤ k + 1
  | 0, n, h => by rw [Lib.decDigits, dif_pos (by simpa using h)]; simp
  | k + 1, n, h => by
    rw [Lib.decDigits]
    split
    · simp
    · have := dec_len_le k (n / 10) (by rw [Nat.pow_succ] at h; omega)
      simp; omega
theorem decl_le {n : Int} (_ : 0 ≤ n) (h1 : n ≤ 10000000) : (dec n).length ≤ 8 := dec_len_le 7 _ (by omega)
theorem itoa_dec {n : Int} (h0 : 0 ≤ n) : itoaB n = bs (dec n) := by
  have : Lib.itoa n = dec n := by rw [Lib.itoa, if_neg (by omega)]; rfl
  rw [itoaB, this]; rfl
def hdr : List UInt8 := [116, 101, 115, 116, 32]
def sp : List UInt8 := [32]
def nl : List UInt8 := [10]
def lineL0 (nm : List UInt8) (e : Int) : List UInt8 := hdr ++ nm ++ sp ++ dec e ++ nl
def lineL (m : HrMark) : List UInt8 := dec m.minute ++ sp ++ dec m.weight ++ nl
def textL (s : HrShop) (t : HrTest) : List UInt8 := lineL0 (((s.kinds[t.kind.toNat]?).map fun k => k.name.data.toList).getD []) t.error ++ (t.marks.map lineL).flatten
theorem nameOk_len {b : ByteArray} (h : nameOk b = true) : b.size ≤ 20 := by
  unfold nameOk at h
  simp at h
  omega
theorem bytesA_append (a b : ByteArray) : bytesA a ++ bytesA b = bytesA (a ++ b) := by
  have : (a ++ b).data.toList = a.data.toList ++ b.data.toList := by simp
  unfold bytesA
  rw [this, List.map_append]
theorem hWriteFirst {h : Heap} {i : Nat} {s : ByteArray} (hi : h[i]? = some (.bld 176 5 (.p .nilslice))) (hs : s.size ≤ 1000000) (h0 : s.size ≠ 0) :
    HCall Tryz.prog 94 [.ref .bl i, .p (.str s)] h (fun r h' => r = .ret (.p (.tuple [.int .i64 s.size, .niliface])) ∧
      h' = (h ++ [AObj.row 1 (bytesA s)]).set i (.bld 176 5 (.slice h.length s.size 0 s.size))) := by
  have hil := (List.getElem?_eq_some_iff.1 hi).1
  refine hBldWrite (x' := .slice h.length s.size 0 s.size) hi (by simp [room]; omega) (.inl rfl) ?_ (by rw [List.getElem?_append_left hil]; exact hi) (.inr ⟨_, _, rfl⟩)
  have hne : ¬ (List.map (fun b : UInt8 => AV.p (PV.int .u8 (b.toNat : Int))) s.data.toList = []) := fun h => h0 (by have := congrArg List.length h; simpa using this)
  have hrm : s.size ≤ room := by simp [room]; omega
  have hl : s.data.size = s.size := rfl
  simp (maxSteps := 400000) only [hne, hrm, Array.length_toList, hl, bytesA, go_sem, simprocAttr]
  rw [if_neg (by simp)]
theorem hWriteNext {h : Heap} {i j n : Nat} {xs : List AV} {s : ByteArray} (hi : h[i]? = some (.bld 176 5 (.slice j n 0 n))) (hj : h[j]? = some (.row 1 xs)) (hn : xs.length = n) (hij : i ≠ j) (hs : n + s.size ≤ 1000000) :
    HCall Tryz.prog 94 [.ref .bl i, .p (.str s)] h (fun r h' => r = .ret (.p (.tuple [.int .i64 s.size, .niliface])) ∧
      h' = (h.set j (.row 1 (xs ++ bytesA s))).set i (.bld 176 5 (.slice j (n + s.size) 0 (n + s.size)))) := by
  refine hBldWrite (x' := .slice j (n + s.size) 0 (n + s.size)) hi (by simp [room]; omega) (.inr ⟨j, n, xs, rfl, hj, hn, by simp [room]; omega⟩) ?_ (by rw [List.getElem?_set_ne hij.symm]; exact hi) (.inr ⟨_, _, rfl⟩)
  have hrm : n + s.size ≤ room := by simp [room]; omega
  have hl : s.data.size = s.size := rfl
  simp (maxSteps := 400000) only [hj, hn, hrm, Array.length_toList, hl, bytesA, go_sem, simprocAttr]
  rw [if_neg (by simp)]
set_option maxHeartbeats 2000000 in
theorem cText (s : HrShop) (t : HrTest) (hc : (hrCheck s).2.2 = 0) (ht : hrTestErr s.kinds.length t = 0) : PCall Tryz.prog 65 [s.pv, t.pv] (.str (bs (textL s t))) := by
  obtain ⟨hok, k0, k1⟩ := testErr_ok ht
  obtain ⟨n, hn⟩ := Int.eq_ofNat_of_zero_le k0
  have hnl : n < s.kinds.length := by omega
  obtain ⟨k, hk⟩ : ∃ k, s.kinds[n]? = some k := ⟨_, List.getElem?_eq_getElem hnl⟩
  have hko := kindOk_of hc (List.mem_of_getElem? hk)
  have hks := nameOk_len hko.name
  obtain ⟨nm, hnm⟩ : ∃ nm, k.name = bs nm := ⟨_, (bs_eta _).symm⟩
  have hsp : textL s t = lineL0 nm t.error ++ (t.marks.map lineL).flatten := by rw [textL, hn, Int.toNat_natCast, hk, Option.map_some, Option.getD_some, hnm, bs_data]
  rw [hnm, bs_size] at hks
  have hlt : (n : Int) < (s.kinds.length : Int) := by omega
  have he := hok.err
  have hel := decl_le he.1 (by omega)
  have hit := itoa_dec he.1
  have l1 : hdr.length = 5 := rfl
  have l2 : sp.length = 1 := rfl
  have l3 : nl.length = 1 := rfl
  have r1 : (bs hdr).size + (bs nm).size ≤ strRoom := by simp [bs_size, strRoom, l1]; omega
  have r2 : (bs (hdr ++ nm)).size + (bs sp).size ≤ strRoom := by simp [bs_size, strRoom, l1, l2]; omega
  have r3 : (bs (hdr ++ nm ++ sp)).size + (bs (dec t.error)).size ≤ strRoom := by simp [bs_size, strRoom, l1, l2]; omega
  have r4 : (bs (hdr ++ nm ++ sp ++ dec t.error)).size + (bs nl).size ≤ strRoom := by simp [bs_size, strRoom, l1, l2, l3]; omega
  have c1 : (⟨#[116, 101, 115, 116, 32]⟩ : ByteArray) = bs hdr := rfl
  have c2 : (⟨#[32]⟩ : ByteArray) = bs sp := rfl
  have c3 : (⟨#[10]⟩ : ByteArray) = bs nl := rfl
  have hA : hdr ++ nm ++ sp ++ dec t.error ++ nl = lineL0 nm t.error := rfl
  have hAl : (lineL0 nm t.error).length ≤ 40 := by simp [lineL0, l1, l2, l3]; omega
  have hA0 : (lineL0 nm t.error).length ≠ 0 := by simp [lineL0, l1]
  generalize lineL0 nm t.error = A at hsp hA hAl hA0
  refine pcall_of_wp draws (fn := Tryz.f65) (n := 42) (rs := [.tmp 4]) (by kernel_rfl) rfl rfl rfl ok65 (Nat.le_of_ble_eq_true rfl) ?_
  simp (maxSteps := 400000) only [H65, W_drawH, hn, hlt, hk, hnm, c1, c2, c3, r1, r2, bs_append, go_sem, simprocAttr]
  refine WDQ_pure (cItoa t.error (by omega) (by omega)) rfl ?_
  simp (maxSteps := 400000) only [H65, W_drawH, hit, r3, r4, c3, bs_append, hA, go_sem, simprocAttr]
  refine WDB_ret (hWriteFirst (s := bs A) rfl (by rw [bs_size]; omega) (by rw [bs_size]; exact hA0)) ?_
  simp (maxSteps := 400000) only [H65, W_drawH, bs_size, go_sem, simprocAttr]
  refine W_loopK [5, 24, 25] (σ := List HrMark × List HrMark × List UInt8 × Heap)
    (fun q => t.marks = q.1 ++ q.2.1 ∧ textL s t = q.2.2.1 ++ (q.2.1.map lineL).flatten ∧ q.2.2.1.length ≤ 40 + 18 * q.1.length ∧ q.2.2.1.length ≠ 0) (fun q => q.2.1.length)
    (fun q => [(26, .p (.int .i64 q.1.length))])
    (fun q => [.row 3 [.p s.pv], .row 3 [.p t.pv], .bld 176 5 (.slice 3 q.2.2.1.length 0 q.2.2.1.length), .row 1 (bytesA (bs q.2.2.1))] ++ q.2.2.2) ([], t.marks, A, []) ⟨rfl, hsp, hAl, hA0⟩ (by simp (maxSteps := 400000) only [hn, List.append_nil, go_sem, simprocAttr]) ?_ ?_
  · simp (maxSteps := 400000) only [go_sem, simprocAttr]
  rintro ⟨done, rest, acc, g⟩ ⟨e1, e2, e3, e4⟩
  dsimp only at e1 e2 e3 e4
  cases rest with
  | nil =>
    have hlt2 : ¬ ((done.length : Int) < (t.marks.length : Int)) := by rw [e1]; simp
    rw [List.map_nil, List.flatten_nil, List.append_nil] at e2
    have hml := hok.len
    have hdl := congrArg List.length e1
    simp only [List.length_append, List.length_nil] at hdl
    simp (maxSteps := 400000) only [hlt2, decide_false, e2, H65, W_drawH, go_sem, simprocAttr]
    have hsz := bs_size acc
    refine WF_ret (hBldString (j := 3) (s := bs acc) (by rw [hsz]; rfl) rfl (by rw [hsz]; exact e4) (by rw [hsz]; omega)) ?_
    simp (maxSteps := 400000) only [go_sem, simprocAttr]
    rw [e2]
  | cons m rest =>
    obtain ⟨hx, hltt⟩ := list_at e1
    have hml := hok.len
    have hdl := congrArg List.length e1
    simp only [List.length_append, List.length_cons] at hdl
    have hnx : IntKind.i64.wrap ((done.length : Int) + 1) = (((done ++ [m]).length : Nat) : Int) := wrap_add (by omega) (by simp [room]; omega) (by simp)
    have hm := hok.all m (by rw [e1]; simp)
    have hd1 := decl_le hm.1 (by omega)
    have hd2 := decl_le hm.2.2.1 (by omega)
    have i1 := itoa_dec hm.1
    have i2 := itoa_dec hm.2.2.1
    have q1 : (bs (dec m.minute)).size + (bs sp).size ≤ strRoom := by simp [bs_size, strRoom, l2]; omega
    have q2 : (bs (dec m.minute ++ sp)).size + (bs (dec m.weight)).size ≤ strRoom := by simp [bs_size, strRoom, l2]; omega
    have q3 : (bs (dec m.minute ++ sp ++ dec m.weight)).size + (bs nl).size ≤ strRoom := by simp [bs_size, strRoom, l2, l3]; omega
    have hB : dec m.minute ++ sp ++ dec m.weight ++ nl = lineL m := rfl
    have hBl : (lineL m).length ≤ 18 := by simp [lineL, l2, l3]; omega
    rw [List.map_cons, List.flatten_cons] at e2
    have g0 := hap_g0 (lo := g) rfl
    have s0 := hap_s0 (lo := g) rfl
    simp (maxSteps := 400000) only [hltt, decide_true, hx, g0, s0, H65, W_drawH, List.append_nil, go_sem, simprocAttr]
    refine WDQ_pure (cItoa m.minute (by omega) (by omega)) rfl ?_
    simp (maxSteps := 400000) only [H65, W_drawH, i1, c2, q1, bs_append, g0, List.append_nil, go_sem, simprocAttr]
    refine WDQ_pure (cItoa m.weight (by omega) (by omega)) rfl ?_
    simp (maxSteps := 400000) only [H65, W_drawH, i2, c3, q2, q3, bs_append, hB, List.append_nil, go_sem, simprocAttr]
    refine WDB_ret (hWriteNext (s := bs (lineL m)) (j := 3) rfl rfl (by rw [bytesA_len, bs_size]) (by decide) (by rw [bs_size]; omega)) ?_
    simp (maxSteps := 400000) only [H65, W_drawH, bs_size, bytesA_append, bs_append, go_sem, simprocAttr]
    refine WQ_headK (done ++ [m], rest, acc ++ lineL m, g ++ [.row 2 [.p m.pv]]) ⟨by rw [e1]; simp, by rw [e2]; simp, by show (acc ++ lineL m).length ≤ 40 + 18 * (done ++ [m]).length; simp only [List.length_append, List.length_singleton]; omega, by show (acc ++ lineL m).length ≠ 0; simp only [List.length_append]; omega⟩ (Nat.lt_succ_self _) (by simp (maxSteps := 400000) only [List.length_append, go_sem, simprocAttr]) ?_
    simp (maxSteps := 400000) only [hnx, go_sem, simprocAttr]
def hrWrite (s : HrShop) (t : HrTest) : ByteArray × Int := if hrOpen s [t] = 0 then (bs (textL s t), 0) else (⟨#[]⟩, hrOpen s [t])
theorem cWrite (s : HrShop) (t : HrTest) : PCall Tryz.prog 34 [s.pv, t.pv] (.tuple [.str (hrWrite s t).1, .int .i64 (hrWrite s t).2]) := by
  refine pcall_of_wp draws (fn := Tryz.f34) (n := 17) (rs := [.tmp 4, .tmp 5]) (by kernel_rfl) rfl rfl rfl ok34 (Nat.le_of_ble_eq_true rfl) ?_
  simp (maxSteps := 400000) only [go_sem, simprocAttr]
  refine WF_frz (cHrOpen s [t] true (by simp)) (by simp (maxSteps := 400000) only [go_sem, simprocAttr]) (.int _ _) ?_
  simp (maxSteps := 400000) only [go_sem, simprocAttr]
  cases h0 : (hrOpen s [t] != 0)
  rotate_left
  · have h0' : ¬ hrOpen s [t] = 0 := by simpa using h0
    simp (maxSteps := 400000) only [hrWrite, if_neg h0', go_sem, simprocAttr]
  have h0' : hrOpen s [t] = 0 := by simpa using h0
  have hok := open_ok h0'
  simp (maxSteps := 400000) only [go_sem, simprocAttr]
  refine WF_pure (cText s t hok.1 hok.2) rfl ?_
  simp (maxSteps := 400000) only [hrWrite, if_pos h0', go_sem, simprocAttr]
end Abs
end Go.Proofs.YtbojkcmohgbpaaaGreatDoor
namespace Go.Proofs.YtbojkcmohgbpaaaGreatDoor
namespace Abs
set_option linter.unusedSimpArgs false
set_option maxRecDepth 4000
theorem hSplitSeq0 (l : List UInt8) (c : UInt8) (h : Heap) : HCall Tryz.prog 100 [.p (.str (bs l)), .p (.str (bs [c])), .p (.int .i64 0)] h
    (fun r h' => r = .ret (.func (.func 124) [] [.ptr (h.length + 1) 1 0 0, .ptr h.length 1 0 0, .ptr (h.length + 2) 1 0 0]) ∧
      h' = h ++ [.row 1 [.p (.str (bs l))], .row 1 [.p (.str (bs [c]))], .row 1 [.p (.int .i64 0)]]) := by
  refine hcall_of_wp draws (fn := Tryz.f100) (n := 8) (rs := [.tmp 6]) (by kernel_rfl) rfl rfl rfl ok100 (Nat.le_of_ble_eq_true rfl) ?_
  simp (maxSteps := 400000) only [List.append_assoc, List.length_append, List.length_singleton, go_sem, simprocAttr]
theorem hSplitSeq (l : List UInt8) (c : UInt8) (h : Heap) : HCall Tryz.prog 73 [.p (.str (bs l)), .p (.str (bs [c]))] h
    (fun r h' => r = .ret (.func (.func 124) [] [.ptr (h.length + 1) 1 0 0, .ptr h.length 1 0 0, .ptr (h.length + 2) 1 0 0]) ∧
      h' = h ++ [.row 1 [.p (.str (bs l))], .row 1 [.p (.str (bs [c]))], .row 1 [.p (.int .i64 0)]]) := by
  refine hcall_of_wp draws (fn := Tryz.f73) (n := 8) (rs := [.tmp 4]) (by kernel_rfl) rfl rfl rfl ok73 (Nat.le_of_ble_eq_true rfl) ?_
  simp (maxSteps := 400000) only [go_sem, simprocAttr]
  refine WF_ret (hSplitSeq0 l c h) ?_
  simp (maxSteps := 400000) only [go_sem, simprocAttr]
def SeqRows (c : UInt8) (ns nsep nz : Nat) (x : List UInt8) (h : Heap) : Prop :=
  h[ns]? = some (.row 1 [.p (.str (bs x))]) ∧ h[nsep]? = some (.row 1 [.p (.str (bs [c]))]) ∧ h[nz]? = some (.row 1 [.p (.int .i64 0)])
set_option maxHeartbeats 1000000 in
theorem hSeqGo (l : List UInt8) (c : UInt8) (hl : l.length < 1000000000) (id ns nsep nz : Nat) (h0 : Heap) (Inv Inv' : List (List UInt8) → List UInt8 → Heap → Prop) (Pan : PV → Heap → Prop)
    (hrow : ∀ done x h, Inv done x h → SeqRows c ns nsep nz x h) (hrow' : ∀ done x h, Inv' done x h → SeqRows c ns nsep nz x h)
    (hy : ∀ done x h, splitL c l = done ++ splitL c x → Inv done x h → HYld Tryz.prog id [.p (.str (bs (cutL c x).1))] h (fun r h' => (r = .ret (.p (.bool true)) ∧ Inv' (done ++ [(cutL c x).1]) x h') ∨ ∃ v, r = .panic v ∧ Pan v h'))
    (hstep : ∀ done x y h, Inv' done x h → (cutL c x).2 = some y → Inv done y (h.set ns (.row 1 [.p (.str (bs y))]))) (hi : Inv [] l h0) :
    HCall Tryz.prog 124 [.ref .yl id, .ptr nsep 1 0 0, .ptr ns 1 0 0, .ptr nz 1 0 0] h0
      (fun r h' => (r = .ret (.p (.tuple [])) ∧ ∃ x, (cutL c x).2 = none ∧ Inv' (splitL c l) x h') ∨ ∃ v, r = .panic v ∧ Pan v h') := by
  refine hcall_of_wp draws (fn := Tryz.f124) (n := 52) (rs := []) (by kernel_rfl) rfl rfl rfl ok124 (Nat.le_of_ble_eq_true rfl) ?_
  obtain ⟨r1, r2, r3⟩ := hrow _ _ _ hi
  have hz : (((bs [c]).size : Int) == 0) = false := rfl
  simp (maxSteps := 400000) only [r1, r2, r3, hz, go_sem, simprocAttr]
  refine W_loopK [0, 1, 2, 3] (σ := List (List UInt8) × List UInt8 × Heap)
    (fun q => splitL c l = q.1 ++ splitL c q.2.1 ∧ Inv q.1 q.2.1 q.2.2 ∧ q.2.1.length < 1000000000) (fun q => q.2.1.length)
    (fun _ => []) (fun q => q.2.2) ([], l, h0) ⟨rfl, hi, hl⟩ rfl ?_ ?_
  · simp (maxSteps := 400000) only [go_sem, simprocAttr]
  clear r1 r2 r3
  rintro ⟨done, x, h⟩ ⟨e1, e2, e3⟩
  dsimp only at e1 e2 e3
  obtain ⟨r1, r2, r3⟩ := hrow _ _ _ e2
  have hyy := hy done x h e1 e2
  simp (maxSteps := 400000) only [r1, r2, r3, go_sem, simprocAttr]
  refine WF_pure (cIndex (bs x) c) rfl ?_
  rw [bs_data]
  rcases idx_cut c x with ⟨h1, h2, h3⟩ | ⟨r, h1, h2, h3⟩
  · simp (maxSteps := 400000) only [h3, r1, go_sem, simprocAttr]
    have hall : splitL c l = done ++ [x] := by rw [e1, splitL_none h1]
    rw [h2] at hyy
    refine WR_yld hyy (fun v h' hr => ?_) (fun v h' hr => ?_)
    · rcases hr with ⟨hr, hI⟩ | ⟨v', hr, _⟩
      · cases hr
        simp (maxSteps := 400000) only [go_sem, simprocAttr]
        refine .inl ?_
        rw [hall]
        exact ⟨x, h1, hI⟩
      · cases hr
    · rcases hr with ⟨hr, _⟩ | ⟨v', hr, hP⟩
      · cases hr
      · cases hr
        simp (maxSteps := 400000) only [go_sem, simprocAttr]
        exact ⟨_, rfl, hP⟩
  · have hlen3 := congrArg List.length h3
    simp only [List.length_append, List.length_cons] at hlen3
    have q1 : decide (((cutL c x).1.length : Int) < 0) = false := by simp
    have q2 : IntKind.i64.wrap (((cutL c x).1.length : Int) + 0) = (((cutL c x).1.length : Nat) : Int) := by rw [Int.add_zero]; exact wrap_in (by omega) (by omega)
    have q3 : (((cutL c x).1.length : Int) ≤ ((bs x).size : Int)) := by rw [bs_size]; omega
    have q4 : (bs x).extract 0 (cutL c x).1.length = bs (cutL c x).1 := by
      rw [bs_extract, List.drop_zero]
      congr 1
      have := congrArg (List.take (cutL c x).1.length) h3
      rw [List.take_left'] at this
      · exact this
      · rfl
    have q5 : IntKind.i64.wrap (((cutL c x).1.length : Int) + (((bs [c]).size : Nat) : Int)) = (((cutL c x).1.length + 1 : Nat) : Int) := by
      rw [bs_size]
      exact wrap_add (by omega) (by simp [room]; omega) (by simp)
    have q6 : ((((cutL c x).1.length + 1 : Nat) : Int) ≤ ((bs x).size : Int)) := by rw [bs_size]; omega
    have q7 : (bs x).extract ((cutL c x).1.length + 1) (bs x).size = bs r := by
      rw [bs_extract, bs_size, List.take_length]
      congr 1
      have := congrArg (List.drop ((cutL c x).1.length + 1)) h3
      rw [this]
      simp
    simp (maxSteps := 400000) only [h2, q1, r1, r2, r3, q2, q3, q4, go_sem, simprocAttr]
    refine WR_yld hyy (fun v h' hr => ?_) (fun v h' hr => ?_)
    rotate_left
    · rcases hr with ⟨hr, _⟩ | ⟨v', hr, hP⟩
      · cases hr
      · cases hr
        simp (maxSteps := 400000) only [go_sem, simprocAttr]
        exact ⟨_, rfl, hP⟩
    rcases hr with ⟨hr, hI⟩ | ⟨v', hr, _⟩
    rotate_left
    · cases hr
    cases hr
    obtain ⟨s1, s2, s3⟩ := hrow' _ _ _ hI
    simp (maxSteps := 400000) only [s1, s2, s3, q5, q6, q7, go_sem, simprocAttr]
    refine WQ_headK (done ++ [(cutL c x).1], r, h'.set ns (.row 1 [.p (.str (bs r))])) ⟨by rw [e1, splitL_some h1]; simp, hstep _ _ _ _ hI h1, by show r.length < 1000000000; omega⟩ (by show r.length < x.length; omega) rfl ?_
    simp (maxSteps := 400000) only [go_sem, simprocAttr]
end Abs
end Go.Proofs.YtbojkcmohgbpaaaGreatDoor
namespace Go.Proofs.YtbojkcmohgbpaaaGreatDoor
namespace Abs
set_option linter.unusedSimpArgs false
set_option linter.unusedVariables false
set_option maxRecDepth 4000
theorem decFrom_append (a b : List UInt8) : ∀ acc, Lib.decFrom acc (a ++ b) = (Lib.decFrom acc a).bind fun x => Lib.decFrom x b := by
  induction a with
  | nil => intro acc; rfl
  | cons x r ih =>
    intro acc
    rw [List.cons_append, Lib.decFrom, Lib.decFrom]
    cases Lib.digitVal x with
    | none => rfl
    | some d => exact ih _
theorem digit_val {d : Nat} (h : d < 10) : Lib.digitVal (UInt8.ofNat (48 + d)) = some d := by
  have e : (UInt8.ofNat (48 + d)).toNat = 48 + d := by simp; omega
  rw [Lib.digitVal, e, if_pos (by omega)]
  congr 1; omega
theorem decFrom_dec (n : Nat) : Lib.decFrom 0 (Lib.decDigits n) = some n := by
  induction n using Nat.strongRecOn with
  | ind n ih =>
    rw [Lib.decDigits]
    split
    · rename_i h
      simp only [Lib.decFrom, digit_val h, Nat.zero_mul, Nat.zero_add]
    · rename_i h
      rw [decFrom_append, ih (n / 10) (by omega)]
      simp only [Option.bind_some, Lib.decFrom, digit_val (Nat.mod_lt n (by omega : 0 < 10))]
      congr 1; omega
theorem dec_digits (n : Nat) : ∀ b, b ∈ Lib.decDigits n → 48 ≤ b.toNat ∧ b.toNat ≤ 57 := by
  induction n using Nat.strongRecOn with
  | ind n ih =>
    intro b hb
    rw [Lib.decDigits] at hb
    split at hb
    · rename_i h
      rw [List.mem_singleton] at hb
      subst hb
      have e : (UInt8.ofNat (48 + n)).toNat = 48 + n := by simp; omega
      omega
    · rename_i h
      rw [List.mem_append, List.mem_singleton] at hb
      rcases hb with hb | rfl
      · exact ih (n / 10) (by omega) b hb
      · have e : (UInt8.ofNat (48 + n % 10)).toNat = 48 + n % 10 := by simp; omega
        omega
theorem decDigits_ne (n : Nat) : Lib.decDigits n ≠ [] := by rw [Lib.decDigits]; split <;> simp
def numL (l : List UInt8) : Option Int := match Lib.atoiAll l with | .ok v => some v | _ => none
theorem numL_dec {n : Int} (h0 : 0 ≤ n) (h1 : n ≤ 10000000) : numL (dec n) = some n := by
  obtain ⟨m, rfl⟩ := Int.eq_ofNat_of_zero_le h0
  have hl := decl_le h0 h1
  have hat : Lib.atoi (dec (m : Int)) = some (m : Int) := by
    unfold dec
    rw [Int.toNat_natCast]
    have hd := dec_digits m
    have hf := decFrom_dec m
    cases hc : Lib.decDigits m with
    | nil => exact absurd hc (decDigits_ne m)
    | cons b r =>
      rw [hc] at hd hf
      have hb := hd b (by simp)
      have b1 : (b == 45) = false := by
        rw [beq_eq_false_iff_ne]; rintro rfl; simp at hb
      have b2 : (b == 43) = false := by
        rw [beq_eq_false_iff_ne]; rintro rfl; simp at hb
      simp only [Lib.atoi, b1, b2, Bool.false_eq_true, if_false, Lib.decNat, List.isEmpty_cons, hf, Option.map_some]
  rw [numL, Lib.atoiAll_short _ (by omega), hat]
  rfl
def errForm : PV := .iface 35 (.int .i64 6)
theorem hMustH (b : Bool) (h : Heap) : HCall Tryz.prog 69 [.p (.bool b)] h (fun r h' => h' = h ∧ r = if b = true then .ret (.p (.tuple [])) else .panic errForm) := by
  refine hcall_of_wp draws (fn := Tryz.f69) (n := 5) (rs := []) (by kernel_rfl) rfl rfl rfl ok69 (Nat.le_of_ble_eq_true rfl) ?_
  simp (maxSteps := 400000) only [go_sem, simprocAttr]
  cases b
  · simp (maxSteps := 400000) only [errForm, go_sem, simprocAttr]
  · simp (maxSteps := 400000) only [go_sem, simprocAttr]
theorem WF_mustH {H : Hints} {Q : Cont} {ops : Array Oper} {rest : List Oper} {dst : Option Tmp} {A : AAct} {b : Bool} (h1 : b = true → @WO ⟨Tryz.prog, H, ops, rest, Q⟩ (A.put dst (.p (.tuple [])) A.h))
    (h2 : b = false → @WQ ⟨Q⟩ (.panic errForm) A) : @WF ⟨Tryz.prog, H, ops, rest, Q, dst⟩ A 69 [.p (.bool b)] := by
  refine WF_call (hMustH b A.h) (fun v h hr => ?_) (fun v h hr => ?_)
  · obtain ⟨rfl, hr⟩ := hr
    cases b
    · cases hr
    · cases hr; exact h1 rfl
  · obtain ⟨rfl, hr⟩ := hr
    cases b
    · cases hr; exact h2 rfl
    · cases hr
theorem cMustH : PCall Tryz.prog 69 [.bool true] (.tuple []) := by
  refine pcall_of_wp draws (fn := Tryz.f69) (n := 5) (rs := []) (by kernel_rfl) rfl rfl rfl ok69 (Nat.le_of_ble_eq_true rfl) ?_
  simp (maxSteps := 400000) only [go_sem, simprocAttr]
theorem cNumber {l : List UInt8} {n : Int} (hl : l.length ≤ 1000000) (h : numL l = some n) : PCall Tryz.prog 72 [.str (bs l)] (.int .i64 n) := by
  refine pcall_of_wp draws (fn := Tryz.f72) (n := 14) (rs := [.tmp 2]) (by kernel_rfl) rfl rfl rfl ok72 (Nat.le_of_ble_eq_true rfl) ?_
  have hp : atoiPV (bs l) = .tuple [.int .i64 n, .niliface] := by
    unfold numL at h
    rw [atoiPV, bs_data]
    cases ha : Lib.atoiAll l <;> rw [ha] at h <;> first | cases h; done | skip
    cases h; rfl
  simp (maxSteps := 400000) only [go_sem, simprocAttr]
  refine WF_pure (cAtoi (bs l) (by rw [bs_size]; omega)) rfl ?_
  simp (maxSteps := 400000) only [hp, go_sem, simprocAttr]
  refine WF_pure cMustH rfl ?_
  simp (maxSteps := 400000) only [go_sem, simprocAttr]
theorem hNumberPan {l : List UInt8} (hl : l.length ≤ 1000000) (h : numL l = none) (hp : Heap) : HCall Tryz.prog 72 [.p (.str (bs l))] hp (fun r h' => r = .panic errForm ∧ h' = hp) := by
  refine hcall_of_wp draws (fn := Tryz.f72) (n := 14) (rs := [.tmp 2]) (by kernel_rfl) rfl rfl rfl ok72 (Nat.le_of_ble_eq_true rfl) ?_
  have hx : ∃ v, atoiPV (bs l) = .tuple [.int .i64 v, .iface 219 .any] := by
    unfold numL at h
    rw [atoiPV, bs_data]
    cases ha : Lib.atoiAll l <;> rw [ha] at h <;> first | cases h; done | exact ⟨_, rfl⟩
  obtain ⟨v, hx⟩ := hx
  simp (maxSteps := 400000) only [go_sem, simprocAttr]
  refine WF_pure (cAtoi (bs l) (by rw [bs_size]; omega)) rfl ?_
  simp (maxSteps := 400000) only [hx, go_sem, simprocAttr]
  refine WF_mustH (fun h => by cases h) (fun _ => ?_)
  simp (maxSteps := 400000) only [go_sem, simprocAttr]
theorem WDR_pure {P : Program} {H : Hints} {ops : Array Oper} {rest : List Oper} {Q : Cont} {o : Oper} {hs : Heap} {A : AAct} {f : FuncId} {args : List AV} {pargs : List PV} {v : PV} (hc : PCall P f pargs v) (ha : args = pargs.map .p)
    (h : @WD ⟨P, H, ops, rest, Q⟩ hs (A.put o.dst (.p v) A.h)) : @WDR ⟨P, H, ops, rest, Q, o⟩ hs A (.call f args) := by
  subst ha
  exact .inl ⟨.p v, fun _ _ => hcall_pure hc, h⟩
theorem WDR_panic {P : Program} {H : Hints} {ops : Array Oper} {rest : List Oper} {Q : Cont} {o : Oper} {hs : Heap} {A : AAct} {f : FuncId} {args : List AV} {v : PV} (hc : HCall P f args A.h (fun r h' => r = .panic v ∧ h' = A.h))
    (h : ∀ T, @WQ ⟨Q⟩ (.panic v) { A with tmps := T }) : @WDR ⟨P, H, ops, rest, Q, o⟩ hs A (.call f args) := .inr ⟨v, hc, h⟩
end Abs
end Go.Proofs.YtbojkcmohgbpaaaGreatDoor
