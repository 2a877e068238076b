/-
  CONTRACTS: numbers as texts and back, a byte sought in a text, counted: by the library's own proofs. No conditions but those in the theorems' heads.
  CONTRACTS: texts as lists of bytes; strings.Cut, TrimSuffix at one byte. No conditions but those in the theorems' heads.
  CONTRACTS: strings.Split at one byte; the reference's Split and Digits. No conditions but those in the theorems' heads.
-/
import Derived.Test.YtbojkcmohgbpaaaGreatDoorHrShelf
import Derived.Test.YtbojkcmohgbpaaaGreatDoorSeatTy
import Derived.Test.YtbojkcmohgbpaaaGreatDoorAbsInvX
import Derived.Lib.AppendIntMem
import Derived.Lib.AtoiErrMem
import Derived.Test.YtbojkcmohgbpaaaGreatDoorLibGoX
namespace Go.Proofs.YtbojkcmohgbpaaaGreatDoor
namespace Abs
open Go.RowKit Go.Sort
theorem fr_of_below {w w' : World} (h : Below w.heap.size w w') : Fr [] w w' :=
  ⟨h.os, h.tape, h.output, h.size, fun b hb _ => h.block b hb, fun b hb => by simp only [World.shape?, h.block b hb]⟩
theorem pargs1 {M : Nat → Prop} {w : World} {cargs : Array Value} {q : PV} (h : PArgs M w cargs [q]) : ∃ v, cargs = #[v] ∧ RepP M w v q := by
  have hn := h.1
  refine ⟨cargs.getD 0 undef, ?_, h.2 0 q rfl⟩
  apply Array.ext
  · simpa using hn
  · intro i h1 h2
    have : i = 0 := by simp at h2; omega
    subst this
    simp [h1]
theorem pargs2 {M : Nat → Prop} {w : World} {cargs : Array Value} {p q : PV} (h : PArgs M w cargs [p, q]) : ∃ u v, cargs = #[u, v] ∧ RepP M w u p ∧ RepP M w v q := by
  have hn := h.1
  refine ⟨cargs.getD 0 undef, cargs.getD 1 undef, ?_, h.2 0 p rfl, h.2 1 q rfl⟩
  apply Array.ext
  · simpa using hn
  · intro i h1 h2
    have : i = 0 ∨ i = 1 := by simp at h2; omega
    rcases this with rfl | rfl <;> simp [h1]
def itoaB (n : Int) : ByteArray := ⟨(Lib.itoa n).toArray⟩
theorem cItoa (n : Int) (h0 : -9223372036854775808 ≤ n) (h1 : n ≤ 9223372036854775807) : PCall Tryz.prog 95 [.int .i64 n] (.str (itoaB n)) := by
  intro M0 w cargs hM hg ha
  obtain ⟨v, rfl, hv⟩ := pargs1 ha
  cases hv
  refine ⟨(fun w' => enter_run Tryz.func95 ok95 _ w'), ?_⟩
  have hn : (Tryz.prog.globalNamed "internal/strconv.uint64pow10").isSome = true := by kernel_rfl
  obtain ⟨b, hb⟩ := Option.isSome_iff_exists.1 hn
  refine (Any.strconv_Itoa Tryz.laysM171 n h0 h1 w (hg.1 b hb)).mono ?_
  rintro e w' ⟨rfl, k, os, rfl⟩
  exact ⟨_, rfl, .str _, fr_of_below (Lib.below_grow _ _ (Nat.le_refl _) _ _)⟩
def atoiPV (s : ByteArray) : PV :=
  match Lib.atoiAll s.data.toList with
  | .ok v => .tuple [.int .i64 v, .niliface]
  | .range => .tuple [.int .i64 (Lib.atoiSat s.data.toList), .iface 219 .any]
  | _ => .tuple [.int .i64 0, .iface 219 .any]
theorem rep_two {M : Nat → Prop} {w : World} {a b : Value} {p q : PV} (h1 : RepP M w a p) (h2 : RepP M w b q) : RepP M w (.tuple #[a, b]) (.tuple [p, q]) :=
  .tuple rfl fun i c hi => by
    match i, hi with
    | 0, hi => cases hi; exact h1
    | 1, hi => cases hi; exact h2
theorem cAtoi (s : ByteArray) (hs : s.size ≤ 281474976710656) : PCall Tryz.prog 99 [.str s] (atoiPV s) := by
  intro M0 w cargs hM hg ha
  obtain ⟨v, rfl, hv⟩ := pargs1 ha
  cases hv
  refine ⟨(fun w' => enter_run Tryz.func99 ok99 _ w'), ?_⟩
  unfold atoiPV
  cases hr : Lib.atoiAll s.data.toList with
  | ok v =>
    refine (Any.strconv_Atoi_ok Tryz.laysC172 s (by omega) v hr w).mono ?_
    rintro e w' ⟨rfl, h⟩
    refine ⟨_, rfl, rep_two (.int _ _) .niliface, ?_⟩
    rcases h with rfl | ⟨t, rfl⟩
    · exact Fr.refl _ _
    · exact fr_of_below (Lib.bytesWorld_below _ _ _)
  | range =>
    have hn : (Tryz.prog.globalNamed "strconv.ErrRange").isSome = true := by kernel_rfl
    obtain ⟨b, hb⟩ := Option.isSome_iff_exists.1 hn
    obtain ⟨tp, p, hvar⟩ := hg.2.2 b hb
    refine (Any.strconv_Atoi_range_var Tryz.laysC172 s hs hr tp p w hvar).mono ?_
    rintro e w' ⟨N, rfl, _, _, hbl⟩
    exact ⟨_, rfl, rep_two (.int _ _) (.iface .any), fr_of_below hbl⟩
  | _ =>
    have hn : (Tryz.prog.globalNamed "strconv.ErrSyntax").isSome = true := by kernel_rfl
    obtain ⟨b, hb⟩ := Option.isSome_iff_exists.1 hn
    obtain ⟨tp, p, hvar⟩ := hg.2.1 b hb
    refine (Any.strconv_Atoi_syntax_var Tryz.laysC172 s hs hr tp p w hvar).mono ?_
    rintro e w' ⟨N, rfl, _, _, hbl⟩
    exact ⟨_, rfl, rep_two (.int _ _) (.iface .any), fr_of_below hbl⟩
theorem cIndexLite (s : ByteArray) (c : UInt8) : PCall Tryz.prog 118 [.str s, .str ⟨#[c]⟩] (.int .i64 (Lib.indexByte s.data.toList c)) := by
  intro M0 w cargs hM hg ha
  obtain ⟨u, v, rfl, hu, hv⟩ := pargs2 ha
  cases hu; cases hv
  refine ⟨(fun w' => enter_run Tryz.func118 ok118 _ w'), ?_⟩
  refine (Any.stringslite_Index_one Tryz.lays219 s c w).mono ?_
  rintro e w' ⟨rfl, rfl⟩
  exact ⟨_, rfl, .int _ _, Fr.refl _ _⟩
theorem cIndex (s : ByteArray) (c : UInt8) : PCall Tryz.prog 121 [.str s, .str ⟨#[c]⟩] (.int .i64 (Lib.indexByte s.data.toList c)) := by
  intro M0 w cargs hM hg ha
  obtain ⟨u, v, rfl, hu, hv⟩ := pargs2 ha
  cases hu; cases hv
  refine ⟨(fun w' => enter_run Tryz.func121 ok121 _ w'), ?_⟩
  refine (Any.strings_Index_one Tryz.lays143 s c w).mono ?_
  rintro e w' ⟨rfl, rfl⟩
  exact ⟨_, rfl, .int _ _, Fr.refl _ _⟩
theorem cCount (s : ByteArray) (c : UInt8) : PCall Tryz.prog 120 [.str s, .str ⟨#[c]⟩] (.int .i64 (Lib.countByte s.data.toList c)) := by
  intro M0 w cargs hM hg ha
  obtain ⟨u, v, rfl, hu, hv⟩ := pargs2 ha
  cases hu; cases hv
  refine ⟨(fun w' => enter_run Tryz.func120 ok120 _ w'), ?_⟩
  refine (Any.strings_Count_one Tryz.lays138 s c w).mono ?_
  rintro e w' ⟨rfl, rfl⟩
  exact ⟨_, rfl, .int _ _, Fr.refl _ _⟩
end Abs
end Go.Proofs.YtbojkcmohgbpaaaGreatDoor
namespace Go.Proofs.YtbojkcmohgbpaaaGreatDoor
namespace Abs
set_option linter.unusedSimpArgs false
set_option maxRecDepth 4000
def bs (l : List UInt8) : ByteArray := ⟨l.toArray⟩
theorem bs_data (l : List UInt8) : (bs l).data.toList = l := rfl
theorem bs_size (l : List UInt8) : (bs l).size = l.length := by simp [bs, ByteArray.size]
theorem bs_eta (s : ByteArray) : bs s.data.toList = s := by cases s; rfl
theorem bs_extract (l : List UInt8) (i j : Nat) : (bs l).extract i j = bs ((l.take j).drop i) := by
  apply ByteArray.ext
  rw [ByteArray.data_extract]
  simp [bs, List.drop_take]
theorem bs_append (a b : List UInt8) : bs a ++ bs b = bs (a ++ b) := by
  apply ByteArray.ext
  simp [bs]
theorem bs_inj {a b : List UInt8} : bs a = bs b ↔ a = b :=
  ⟨fun h => by have := congrArg (fun s : ByteArray => s.data.toList) h; simpa [bs_data] using this, fun h => h ▸ rfl⟩
theorem baBeq (x y : ByteArray) : (x == y) = true ↔ x = y := by
  cases x with
  | mk a =>
    cases y with
    | mk b =>
      show (a == b) = true ↔ _
      rw [beq_iff_eq]
      exact ⟨fun h => h ▸ rfl, fun h => by cases h; rfl⟩
theorem bs_beq (a b : List UInt8) : (bs a == bs b) = (a == b) := by
  rw [Bool.eq_iff_iff, baBeq, beq_iff_eq, bs_inj]
def cutL (c : UInt8) : List UInt8 → List UInt8 × Option (List UInt8)
  | [] => ([], none)
  | x :: r => if x = c then ([], some r) else (x :: (cutL c r).1, (cutL c r).2)
theorem idx_cut (c : UInt8) : ∀ l : List UInt8, ((cutL c l).2 = none ∧ (cutL c l).1 = l ∧ Lib.indexByte l c = -1) ∨
    ∃ r, (cutL c l).2 = some r ∧ Lib.indexByte l c = ((cutL c l).1.length : Int) ∧ l = (cutL c l).1 ++ c :: r
  | [] => .inl ⟨rfl, rfl, rfl⟩
  | x :: l => by
    unfold cutL Lib.indexByte
    by_cases hx : x = c
    · subst hx
      simp
    · have hb : (x == c) = false := by simpa using hx
      rw [if_neg hx, hb]
      simp only [Bool.false_eq_true, if_false]
      rcases idx_cut c l with ⟨h1, h2, h3⟩ | ⟨r, h1, h2, h3⟩
      · exact .inl ⟨h1, by simp [h2], by simp [h3]⟩
      · refine .inr ⟨r, h1, ?_, ?_⟩
        · rw [h2]
          have : ¬ ((((cutL c l).1.length : Int) == -1) = true) := by simp
          rw [if_neg this]
          simp
        · simp [← h3]
theorem cutL_len (c : UInt8) : ∀ (l r : List UInt8), (cutL c l).2 = some r → r.length < l.length := by
  intro l r h
  rcases idx_cut c l with ⟨h1, _⟩ | ⟨r', h1, _, h3⟩
  · rw [h1] at h; cases h
  · rw [h1] at h; cases h
    have := congrArg List.length h3
    simp at this; omega
theorem cLiteCut (l : List UInt8) (c : UInt8) (hl : l.length < 1000000000) : PCall Tryz.prog 97 [.str (bs l), .str (bs [c])] (.tuple [.str (bs (cutL c l).1), .str (bs ((cutL c l).2.getD [])), .bool (cutL c l).2.isSome]) := by
  refine pcall_of_wp draws (fn := Tryz.f97) (n := 23) (rs := [.tmp 4, .tmp 5, .tmp 6]) (by kernel_rfl) rfl rfl rfl ok97 (Nat.le_of_ble_eq_true rfl) ?_
  simp (maxSteps := 400000) only [go_sem, simprocAttr]
  refine WF_pure (cIndexLite (bs l) c) rfl ?_
  rw [bs_data]
  rcases idx_cut c l with ⟨h1, h2, h3⟩ | ⟨r, h1, h2, h3⟩
  · simp (maxSteps := 400000) only [h1, h2, h3, go_sem, simprocAttr]
    exact ⟨rfl, rfl⟩
  · have hlen := congrArg List.length h3
    simp only [List.length_append, List.length_cons] at hlen
    have e0 : decide ((0 : Int) ≤ ((cutL c l).1.length : Int)) = true := by simp
    have e1 : (((cutL c l).1.length : Int) ≤ ((bs l).size : Int)) := by rw [bs_size]; omega
    have e2 : IntKind.i64.wrap (((cutL c l).1.length : Int) + (((bs [c]).size : Nat) : Int)) = (((cutL c l).1.length + 1 : Nat) : Int) := by
      rw [bs_size]
      exact wrap_add (by omega) (by simp [room]; omega) (by simp)
    have e3 : ((((cutL c l).1.length + 1 : Nat) : Int) ≤ ((bs l).size : Int)) := by rw [bs_size]; omega
    have e4 : (bs l).extract 0 (cutL c l).1.length = bs (cutL c l).1 := by
      rw [bs_extract, List.drop_zero]
      congr 1
      have := congrArg (List.take (cutL c l).1.length) h3
      rw [List.take_left'] at this
      · exact this
      · rfl
    have e5 : (bs l).extract ((cutL c l).1.length + 1) (bs l).size = bs r := by
      rw [bs_extract, bs_size, List.take_length]
      congr 1
      have := congrArg (List.drop ((cutL c l).1.length + 1)) h3
      rw [this]
      simp
    simp (maxSteps := 400000) only [h1, h2, e0, e1, e2, e3, e4, e5, go_sem, simprocAttr]
    try exact ⟨rfl, rfl⟩
theorem cStrCut (l : List UInt8) (c : UInt8) (hl : l.length < 1000000000) : PCall Tryz.prog 67 [.str (bs l), .str (bs [c])] (.tuple [.str (bs (cutL c l).1), .str (bs ((cutL c l).2.getD [])), .bool (cutL c l).2.isSome]) := by
  refine pcall_of_wp draws (fn := Tryz.f67) (n := 13) (rs := [.tmp 4, .tmp 5, .tmp 6]) (by kernel_rfl) rfl rfl rfl ok67 (Nat.le_of_ble_eq_true rfl) ?_
  simp (maxSteps := 400000) only [go_sem, simprocAttr]
  refine WF_pure (cLiteCut l c hl) rfl ?_
  simp (maxSteps := 400000) only [go_sem, simprocAttr]
def trimL (c : UInt8) (l : List UInt8) : List UInt8 := if l.getLast? = some c then l.dropLast else l
theorem cHasSuffix (l : List UInt8) (c : UInt8) (hl : l.length < 1000000000) : PCall Tryz.prog 126 [.str (bs l), .str (bs [c])] (.bool (decide (l.getLast? = some c))) := by
  refine pcall_of_wp draws (fn := Tryz.f126) (n := 21) (rs := [.tmp 4]) (by kernel_rfl) rfl rfl rfl ok126 (Nat.le_of_ble_eq_true rfl) ?_
  rcases List.eq_nil_or_concat l with rfl | ⟨a, x, rfl⟩
  · have e1 : decide ((((bs [c]).size : Nat) : Int) ≤ (((bs []).size : Nat) : Int)) = false := by rw [bs_size, bs_size]; simp
    simp (maxSteps := 400000) only [e1, go_sem, simprocAttr]
    simp
  · rw [List.concat_eq_append] at hl ⊢
    have e1 : decide ((((bs [c]).size : Nat) : Int) ≤ (((bs (a ++ [x])).size : Nat) : Int)) = true := by rw [bs_size, bs_size]; simp <;> omega
    have e2 : IntKind.i64.wrap ((((bs (a ++ [x])).size : Nat) : Int) - (((bs [c]).size : Nat) : Int)) = ((a.length : Nat) : Int) := by
      rw [bs_size, bs_size, wrap_small (by simp) (by simp [room] at hl ⊢; omega)]
      simp
    have e3 : ((a.length : Nat) : Int) ≤ (((bs (a ++ [x])).size : Nat) : Int) := by rw [bs_size]; simp <;> omega
    have e4 : (bs (a ++ [x])).extract a.length (bs (a ++ [x])).size = bs [x] := by
      rw [bs_extract, bs_size, List.take_length]
      simp
    have e5 : (bs [x] == bs [c]) = decide ((a ++ [x]).getLast? = some c) := by
      rw [bs_beq, List.getLast?_concat, Bool.eq_iff_iff]
      simp
    simp (maxSteps := 400000) only [e1, e2, e3, e4, e5, go_sem, simprocAttr]
theorem cLiteTrim (l : List UInt8) (c : UInt8) (hl : l.length < 1000000000) : PCall Tryz.prog 101 [.str (bs l), .str (bs [c])] (.str (bs (trimL c l))) := by
  refine pcall_of_wp draws (fn := Tryz.f101) (n := 16) (rs := [.tmp 4]) (by kernel_rfl) rfl rfl rfl ok101 (Nat.le_of_ble_eq_true rfl) ?_
  simp (maxSteps := 400000) only [go_sem, simprocAttr]
  refine WF_pure (cHasSuffix l c hl) rfl ?_
  by_cases h : l.getLast? = some c
  · have e1 : IntKind.i64.wrap ((((bs l).size : Nat) : Int) - (((bs [c]).size : Nat) : Int)) = ((l.length - 1 : Nat) : Int) := by
      have : l ≠ [] := by rintro rfl; simp at h
      have : 0 < l.length := List.length_pos_iff.2 this
      rw [bs_size, bs_size, wrap_small (by simp; omega) (by simp [room]; omega)]
      simp; omega
    have e2 : ((l.length - 1 : Nat) : Int) ≤ (((bs l).size : Nat) : Int) := by rw [bs_size]; omega
    have e3 : (bs l).extract 0 (l.length - 1) = bs l.dropLast := by rw [bs_extract, List.drop_zero, List.dropLast_eq_take]
    simp (maxSteps := 400000) only [h, e1, e2, e3, trimL, if_pos h, go_sem, simprocAttr]
  · simp (maxSteps := 400000) only [h, trimL, if_neg h, go_sem, simprocAttr]
theorem cTrimSuffix (l : List UInt8) (c : UInt8) (hl : l.length < 1000000000) : PCall Tryz.prog 74 [.str (bs l), .str (bs [c])] (.str (bs (trimL c l))) := by
  refine pcall_of_wp draws (fn := Tryz.f74) (n := 8) (rs := [.tmp 4]) (by kernel_rfl) rfl rfl rfl ok74 (Nat.le_of_ble_eq_true rfl) ?_
  simp (maxSteps := 400000) only [go_sem, simprocAttr]
  refine WF_pure (cLiteTrim l c hl) rfl ?_
  simp (maxSteps := 400000) only [go_sem, simprocAttr]
end Abs
end Go.Proofs.YtbojkcmohgbpaaaGreatDoor
namespace Go.Proofs.YtbojkcmohgbpaaaGreatDoor
namespace Abs
set_option linter.unusedSimpArgs false
set_option maxRecDepth 4000
def splitL (c : UInt8) : List UInt8 → List (List UInt8)
  | [] => [[]]
  | x :: r => if x = c then [] :: splitL c r else match splitL c r with | [] => [[x]] | a :: t => (x :: a) :: t
theorem splitL_cut (c : UInt8) : ∀ l : List UInt8, splitL c l = (cutL c l).1 :: (match (cutL c l).2 with | none => [] | some r => splitL c r)
  | [] => rfl
  | x :: r => by
    by_cases hx : x = c
    · simp only [splitL, cutL, if_pos hx]
    · simp only [splitL, cutL, if_neg hx]
      rw [splitL_cut c r]
theorem splitL_none {c : UInt8} {l : List UInt8} (h : (cutL c l).2 = none) : splitL c l = [l] := by
  rcases idx_cut c l with ⟨h1, h2, h3⟩ | ⟨r, h1, _⟩
  · rw [splitL_cut, h1, h2]
  · rw [h1] at h; cases h
theorem splitL_some {c : UInt8} {l r : List UInt8} (h : (cutL c l).2 = some r) : splitL c l = (cutL c l).1 :: splitL c r := by
  rw [splitL_cut, h]
theorem splitL_count (c : UInt8) : ∀ l : List UInt8, (splitL c l).length = l.count c + 1
  | [] => rfl
  | x :: r => by
    have ih := splitL_count c r
    unfold splitL
    by_cases hx : x = c
    · subst hx
      simp [ih]
    · rw [if_neg hx, List.count_cons_of_ne hx]
      cases hs : splitL c r with
      | nil => rw [hs] at ih; simp at ih
      | cons a t => rw [hs] at ih; simpa using ih
theorem splitL_pos (c : UInt8) (l : List UInt8) : 0 < (splitL c l).length := by rw [splitL_count]; omega
theorem splitL_le (c : UInt8) (l : List UInt8) : (splitL c l).length ≤ l.length + 1 := by rw [splitL_count]; have := List.count_le_length (a := c) (l := l); omega
def strsPV (l : List (List UInt8)) : PV := .slice 1 (l.map fun x => .str (bs x)) false
def splitRow (N : Nat) (done : List (List UInt8)) : List AV := (done.map fun x => AV.p (.str (bs x))) ++ List.replicate (N - done.length) (AV.p (.str ⟨#[]⟩))
theorem splitRow_len {N : Nat} {done : List (List UInt8)} (h : done.length ≤ N) : (splitRow N done).length = N := by simp [splitRow]; omega
theorem splitRow_at {N : Nat} {done : List (List UInt8)} (h : done.length < N) : (splitRow N done)[done.length]? = some (AV.p (.str ⟨#[]⟩)) := by
  unfold splitRow
  rw [List.getElem?_append_right (by simp), List.getElem?_replicate]
  simp; omega
theorem splitRow_set {N : Nat} {done : List (List UInt8)} (x : List UInt8) (h : done.length < N) : (splitRow N done).set done.length (AV.p (.str (bs x))) = splitRow N (done ++ [x]) := by
  unfold splitRow
  rw [List.set_append_right _ _ (by simp)]
  obtain ⟨k, hk⟩ : ∃ k, N - done.length = k + 1 := ⟨N - done.length - 1, by omega⟩
  have hk2 : N - (done ++ [x]).length = k := by simp; omega
  rw [hk, hk2]
  simp [List.replicate_succ]
theorem splitRow_all {N : Nat} {done : List (List UInt8)} (h : done.length = N) : splitRow N done = done.map fun x => AV.p (.str (bs x)) := by
  unfold splitRow
  rw [h]; simp
theorem splitRow_below (n N : Nat) (done : List (List UInt8)) : ∀ x, x ∈ splitRow N done → below n x := by
  intro x hx
  simp only [splitRow, List.mem_append, List.mem_map, List.mem_replicate] at hx
  rcases hx with ⟨_, _, rfl⟩ | ⟨_, rfl⟩ <;> exact trivial
theorem cGenSplit (l : List UInt8) (c : UInt8) (hl : l.length < 1000000000) : PCall Tryz.prog 98 [.str (bs l), .str (bs [c]), .int .i64 0, .int .i64 (-1)] (strsPV (splitL c l)) := by
  refine pcall_of_wp_frz draws (fn := Tryz.f98) (n := 66) (rs := [.tmp 8]) (by kernel_rfl) rfl rfl rfl ok98 (Nat.le_of_ble_eq_true rfl) ?_
  have hsep : (bs [c] == (⟨#[]⟩ : ByteArray)) = false := by
    rw [show (⟨#[]⟩ : ByteArray) = bs [] from rfl, bs_beq]; rfl
  obtain ⟨N, hN⟩ : ∃ N, N = (splitL c l).length := ⟨_, rfl⟩
  have hN1 : 0 < N := hN ▸ splitL_pos c l
  have hNl : N ≤ l.length + 1 := hN ▸ splitL_le c l
  have hcnt : IntKind.i64.wrap ((Lib.countByte (bs l).data.toList c : Int) + 1) = (N : Int) := by
    refine wrap_add (by omega) (by simp [room]; omega) ?_
    rw [bs_data]
    unfold Lib.countByte
    rw [hN, splitL_count]; rfl
  simp (maxSteps := 400000) only [hsep, go_sem, simprocAttr]
  refine WF_pure (cCount (bs l) c) rfl ?_
  have hw : IntKind.i64.wrap ((((bs l).size : Nat) : Int) + 1) = ((l.length + 1 : Nat) : Int) := by
    rw [bs_size]; exact wrap_add (by omega) (by simp [room]; omega) (by simp)
  have hmin : ¬ (((l.length + 1 : Nat) : Int) < (N : Int)) := by omega
  have hroom : ((N : Int) ≤ ((room : Nat) : Int)) := by simp [room]; omega
  have hN2 : IntKind.i64.wrap ((N : Int) - 1) = ((N - 1 : Nat) : Int) := by rw [wrap_small (by omega) (by simp [room]; omega)]; omega
  simp (maxSteps := 400000) only [hcnt, hw, hmin, hroom, hN2, go_sem, simprocAttr]
  refine W_loopA [1, 2, 3, 9] (σ := List (List UInt8) × List UInt8) (fun q => splitL c l = q.1 ++ splitL c q.2 ∧ q.2.length ≤ l.length) (fun q => q.2.length)
    (fun q => [(0, .p (.str (bs q.2))), (10, .p (.int .i64 q.1.length))]) (fun q => [.row 1 (splitRow N q.1)]) ([], l) ⟨rfl, Nat.le_refl _⟩ ?_ ?_
  · simp (maxSteps := 400000) only [splitRow, go_sem, simprocAttr]
    all_goals first | (simp; done) | (simp; intro _; trivial)
  rintro ⟨done, r⟩ ⟨e1, e2⟩
  dsimp only at e1 e2
  have hlen := congrArg List.length e1
  rw [← hN, List.length_append] at hlen
  have hlt0 : done.length < N := by have := splitL_pos c r; omega
  have hrl := splitRow_len (Nat.le_of_lt hlt0)
  have hat := splitRow_at hlt0
  have hi0 : (done.length : Int) < (N : Int) := by omega
  rcases idx_cut c r with ⟨h1, h2, h3⟩ | ⟨r', h1, h2, h3⟩
  · have hs := splitL_none h1
    rw [hs, List.length_singleton] at hlen
    have hge : decide ((done.length : Int) < ((N - 1 : Nat) : Int)) = false := by simp; omega
    have hset := splitRow_set r hlt0
    have hall : splitRow N (done ++ [r]) = (splitL c l).map fun x => AV.p (.str (bs x)) := by rw [splitRow_all (by simp; omega), e1, hs]
    have hw2 : IntKind.i64.wrap ((done.length : Int) + 1) = (N : Int) := wrap_add (by omega) (by simp [room]; omega) (by omega)
    have hN3 : (splitL c l).length = N := hN.symm
    simp (maxSteps := 400000) only [hge, hrl, hat, hi0, hset, hall, hw2, hN3, go_sem, simprocAttr]
    rw [strsPV, Nat.sub_zero, List.take_of_length_le (by simp [hN3])]
  · have hs := splitL_some h1
    have hlt : decide ((done.length : Int) < ((N - 1 : Nat) : Int)) = true := by
      have := splitL_pos c r'
      have := congrArg List.length hs
      simp at this ⊢; omega
    have hset := splitRow_set (cutL c r).1 hlt0
    have hrlen := congrArg List.length h3
    simp only [List.length_append, List.length_cons] at hrlen
    simp (maxSteps := 400000) only [hlt, go_sem, simprocAttr]
    refine WF_pure (cIndex (bs r) c) rfl ?_
    have hd : Lib.indexByte (bs r).data.toList c = ((cutL c r).1.length : Int) := h2
    have f0 : decide (((cutL c r).1.length : Int) < 0) = false := by simp
    have f1 : IntKind.i64.wrap (((cutL c r).1.length : Int) + 0) = ((cutL c r).1.length : Int) := wrap_add (by omega) (by simp [room]; omega) (by simp)
    have f2 : (((cutL c r).1.length : Int) ≤ ((bs r).size : Int)) := by rw [bs_size]; omega
    have f3 : (bs r).extract 0 (cutL c r).1.length = bs (cutL c r).1 := by
      rw [bs_extract, List.drop_zero]
      congr 1
      have := congrArg (List.take (cutL c r).1.length) h3
      rw [List.take_left'] at this
      · exact this
      · rfl
    have f4 : IntKind.i64.wrap (((cutL c r).1.length : Int) + (((bs [c]).size : Nat) : Int)) = (((cutL c r).1.length + 1 : Nat) : Int) := by
      rw [bs_size]
      exact wrap_add (by omega) (by simp [room]; omega) (by simp)
    have f5 : ((((cutL c r).1.length + 1 : Nat) : Int) ≤ ((bs r).size : Int)) := by rw [bs_size]; omega
    have f6 : (bs r).extract ((cutL c r).1.length + 1) (bs r).size = bs r' := by
      rw [bs_extract, bs_size, List.take_length]
      congr 1
      have := congrArg (List.drop ((cutL c r).1.length + 1)) h3
      rw [this]
      simp
    have hnx : IntKind.i64.wrap ((done.length : Int) + 1) = (((done ++ [(cutL c r).1]).length : Nat) : Int) := wrap_add (by omega) (by simp [room]; omega) (by simp)
    simp (maxSteps := 400000) only [hd, f0, f1, f2, f3, f4, f5, f6, hrl, hat, hi0, hset, go_sem, simprocAttr]
    refine WQ_headA (done ++ [(cutL c r).1], r') ⟨by rw [e1, hs]; simp, by show r'.length ≤ l.length; omega⟩ (by show r'.length < r.length; omega) ?_
    simp (maxSteps := 400000) only [hnx, go_sem, simprocAttr]
    exact splitRow_below _ _ _
theorem cStrSplit (l : List UInt8) (c : UInt8) (hl : l.length < 1000000000) : PCall Tryz.prog 68 [.str (bs l), .str (bs [c])] (strsPV (splitL c l)) := by
  refine pcall_of_wp draws (fn := Tryz.f68) (n := 8) (rs := [.tmp 4]) (by kernel_rfl) rfl rfl rfl ok68 (Nat.le_of_ble_eq_true rfl) ?_
  simp (maxSteps := 400000) only [go_sem, simprocAttr]
  refine WF_pure (cGenSplit l c hl) rfl ?_
  simp (maxSteps := 400000) only [go_sem, simprocAttr]
end Abs
end Go.Proofs.YtbojkcmohgbpaaaGreatDoor
