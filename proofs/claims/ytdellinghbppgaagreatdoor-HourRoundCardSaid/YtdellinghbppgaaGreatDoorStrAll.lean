/-
  CONTRACTS: numbers as texts and back, a byte sought in a text, counted: by the library's own proofs. No conditions but those in the theorems' heads.
  CONTRACTS: strings.Builder: a text written into one of one's own, and what it holds. No conditions but those in the theorems' heads.
  CONTRACTS: texts as lists of bytes; strings.Cut, TrimSuffix at one byte. No conditions but those in the theorems' heads.
  CONTRACTS: strings.Split at one byte; the reference's Split and Digits. No conditions but those in the theorems' heads.
  CONTRACTS: strings.SplitSeq at one byte: the function that it returns, and what a call of that one comes to, whatever its rounds do. No conditions but those in the theorems' heads.
-/
import Derived.Test.YtdellinghbppgaaGreatDoorHrShelf
import Derived.Test.YtdellinghbppgaaGreatDoorSeatTy
import Derived.Test.YtdellinghbppgaaGreatDoorAbsKill
import Derived.Lib.AppendIntMem
import Derived.Lib.AtoiErrMem
import Derived.Test.YtdellinghbppgaaGreatDoorAbsBld
import Derived.Lib.Walk
import Derived.Lib.Builder
import Derived.Lib.UnsafeStr
import Derived.WalkKit
import Derived.Laws.Externs
import Derived.Test.YtdellinghbppgaaGreatDoorLibAll
namespace Go.Proofs.YtdellinghbppgaaGreatDoor
namespace Abs
open Go.RowKit Go.Sort

theorem fr_of_below {w w' : World} (h : Below w.heap.size w w') : Fr [] w w' :=
  ⟨h.os, h.tape, h.output, h.size, fun b hb _ => h.block b hb, fun b hb => by simp only [World.shape?, h.block b hb]⟩
theorem pargs1 {M : Nat → Prop} {w : World} {cargs : Array Value} {q : PV} (h : PArgs M w cargs [q]) : ∃ v, cargs = #[v] ∧ RepP M w v q := by
  have hn := h.1
  refine ⟨cargs.getD 0 undef, ?_, h.2 0 q rfl⟩
  apply Array.ext
  · simpa using hn
  · intro i h1 h2
    have : i = 0 := by simp at h2; omega
    subst this
    simp [h1]
theorem pargs2 {M : Nat → Prop} {w : World} {cargs : Array Value} {p q : PV} (h : PArgs M w cargs [p, q]) : ∃ u v, cargs = #[u, v] ∧ RepP M w u p ∧ RepP M w v q := by
  have hn := h.1
  refine ⟨cargs.getD 0 undef, cargs.getD 1 undef, ?_, h.2 0 p rfl, h.2 1 q rfl⟩
  apply Array.ext
  · simpa using hn
  · intro i h1 h2
    have : i = 0 ∨ i = 1 := by simp at h2; omega
    rcases this with rfl | rfl <;> simp [h1]

/-- a number's text -/
def itoaB (n : Int) : ByteArray := ⟨(Lib.itoa n).toArray⟩
theorem cItoa (n : Int) (h0 : -9223372036854775808 ≤ n) (h1 : n ≤ 9223372036854775807) : PCall Tryz.prog 90 [.int .i64 n] (.str (itoaB n)) := by
  intro M0 w cargs hM hg ha
  obtain ⟨v, rfl, hv⟩ := pargs1 ha
  cases hv
  refine ⟨(fun w' => enter_run Tryz.func90 ok90 _ w'), ?_⟩
  have hn : (Tryz.prog.globalNamed "internal/strconv.uint64pow10").isSome = true := by kernel_rfl
  obtain ⟨b, hb⟩ := Option.isSome_iff_exists.1 hn
  refine (Any.strconv_Itoa Tryz.laysM171 n h0 h1 w (hg.1 b hb)).mono ?_
  rintro e w' ⟨rfl, k, os, rfl⟩
  exact ⟨_, rfl, .str _, fr_of_below (Lib.below_grow _ _ (Nat.le_refl _) _ _)⟩

/-- what a text is read as -/
def atoiPV (s : ByteArray) : PV :=
  match Lib.atoiAll s.data.toList with
  | .ok v => .tuple [.int .i64 v, .niliface]
  | .range => .tuple [.int .i64 (Lib.atoiSat s.data.toList), .iface 173 .any]
  | _ => .tuple [.int .i64 0, .iface 173 .any]
theorem rep_two {M : Nat → Prop} {w : World} {a b : Value} {p q : PV} (h1 : RepP M w a p) (h2 : RepP M w b q) : RepP M w (.tuple #[a, b]) (.tuple [p, q]) :=
  .tuple rfl fun i c hi => by
    match i, hi with
    | 0, hi => cases hi; exact h1
    | 1, hi => cases hi; exact h2
theorem cAtoi (s : ByteArray) (hs : s.size ≤ 281474976710656) : PCall Tryz.prog 95 [.str s] (atoiPV s) := by
  intro M0 w cargs hM hg ha
  obtain ⟨v, rfl, hv⟩ := pargs1 ha
  cases hv
  refine ⟨(fun w' => enter_run Tryz.func95 ok95 _ w'), ?_⟩
  unfold atoiPV
  cases hr : Lib.atoiAll s.data.toList with
  | ok v =>
    refine (Any.strconv_Atoi_ok Tryz.laysC172 s (by omega) v hr w).mono ?_
    rintro e w' ⟨rfl, h⟩
    refine ⟨_, rfl, rep_two (.int _ _) .niliface, ?_⟩
    rcases h with rfl | ⟨t, rfl⟩
    · exact Fr.refl _ _
    · exact fr_of_below (Lib.bytesWorld_below _ _ _)
  | range =>
    have hn : (Tryz.prog.globalNamed "strconv.ErrRange").isSome = true := by kernel_rfl
    obtain ⟨b, hb⟩ := Option.isSome_iff_exists.1 hn
    obtain ⟨tp, p, hvar⟩ := hg.2.2 b hb
    refine (Any.strconv_Atoi_range_var Tryz.laysC172 s hs hr tp p w hvar).mono ?_
    rintro e w' ⟨N, rfl, _, _, hbl⟩
    exact ⟨_, rfl, rep_two (.int _ _) (.iface .any), fr_of_below hbl⟩
  | _ =>
    have hn : (Tryz.prog.globalNamed "strconv.ErrSyntax").isSome = true := by kernel_rfl
    obtain ⟨b, hb⟩ := Option.isSome_iff_exists.1 hn
    obtain ⟨tp, p, hvar⟩ := hg.2.1 b hb
    refine (Any.strconv_Atoi_syntax_var Tryz.laysC172 s hs hr tp p w hvar).mono ?_
    rintro e w' ⟨N, rfl, _, _, hbl⟩
    exact ⟨_, rfl, rep_two (.int _ _) (.iface .any), fr_of_below hbl⟩

/-- the place of a byte in a text -/
theorem cIndexLite (s : ByteArray) (c : UInt8) : PCall Tryz.prog 106 [.str s, .str ⟨#[c]⟩] (.int .i64 (Lib.indexByte s.data.toList c)) := by
  intro M0 w cargs hM hg ha
  obtain ⟨u, v, rfl, hu, hv⟩ := pargs2 ha
  cases hu; cases hv
  refine ⟨(fun w' => enter_run Tryz.func106 ok106 _ w'), ?_⟩
  refine (Any.stringslite_Index_one Tryz.lays219 s c w).mono ?_
  rintro e w' ⟨rfl, rfl⟩
  exact ⟨_, rfl, .int _ _, Fr.refl _ _⟩
theorem cIndex (s : ByteArray) (c : UInt8) : PCall Tryz.prog 109 [.str s, .str ⟨#[c]⟩] (.int .i64 (Lib.indexByte s.data.toList c)) := by
  intro M0 w cargs hM hg ha
  obtain ⟨u, v, rfl, hu, hv⟩ := pargs2 ha
  cases hu; cases hv
  refine ⟨(fun w' => enter_run Tryz.func109 ok109 _ w'), ?_⟩
  refine (Any.strings_Index_one Tryz.lays143 s c w).mono ?_
  rintro e w' ⟨rfl, rfl⟩
  exact ⟨_, rfl, .int _ _, Fr.refl _ _⟩
theorem cCount (s : ByteArray) (c : UInt8) : PCall Tryz.prog 108 [.str s, .str ⟨#[c]⟩] (.int .i64 (Lib.countByte s.data.toList c)) := by
  intro M0 w cargs hM hg ha
  obtain ⟨u, v, rfl, hu, hv⟩ := pargs2 ha
  cases hu; cases hv
  refine ⟨(fun w' => enter_run Tryz.func108 ok108 _ w'), ?_⟩
  refine (Any.strings_Count_one Tryz.lays138 s c w).mono ?_
  rintro e w' ⟨rfl, rfl⟩
  exact ⟨_, rfl, .int _ _, Fr.refl _ _⟩
end Abs
end Go.Proofs.YtdellinghbppgaaGreatDoor

namespace Go.Proofs.YtdellinghbppgaaGreatDoor
namespace Abs
open Go.RowKit
set_option maxRecDepth 100000

theorem bldSize : (Tryz.prog.info? 141).map (·.size) = some 2 := by kernel_rfl
theorem bldLies : liesAt Tryz.prog Tryz.prog.depth 141 (2 / Tryz.prog.cellsOf 141) 0 141 1 = true := by kernel_rfl

set_option maxHeartbeats 1000000 in
theorem bldCheck_used (b : Nat) (w : World) (h0 : w.cell? ⟨b, 0, none⟩ = some (.pointer (some ⟨b, 0, none⟩))) :
    Calls Tryz.prog 104 #[.pointer (some ⟨b, 0, none⟩)] w fun e w' => e = .returned (.tuple #[]) ∧ w' = w := by
  obtain ⟨j, hj, _⟩ := Option.map_eq_some_iff.1 bldSize
  go_enter Tryz.func104, Tryz.ntmps104
  go_wp2
  rw [Lib.run_neq_ptr_same w _ Tryz.underlying138 hj]
  go_wp2
  go_end0
  exact ⟨rfl, rfl⟩

set_option maxHeartbeats 1000000 in
theorem bldCheck_fresh (b : Nat) (w : World) (h0 : w.cell? ⟨b, 0, none⟩ = some (.pointer none)) (hsh : w.shape? b = some (141, 2)) (hfz : w.frozen? ⟨b, 0, none⟩ = false) :
    Calls Tryz.prog 104 #[.pointer (some ⟨b, 0, none⟩)] w fun e w' => e = .returned (.tuple #[]) ∧ w' = w.setCell ⟨b, 0, none⟩ (.pointer (some ⟨b, 0, none⟩)) := by
  obtain ⟨j, hj, hjs⟩ := Option.map_eq_some_iff.1 bldSize
  go_enter Tryz.func104, Tryz.ntmps104
  go_wp2
  rw [Lib.run_to_unsafe w ⟨b, 0, none⟩ Tryz.underlying138 Tryz.underlying164 hj (by rw [hjs]; decide) hsh (Nat.zero_lt_succ 1)]
  simp only [Result.andThen]
  rw [Oper.upon_value]
  go_wp2
  rw [run_callFunc_extern Tryz.func116 (by kernel_rfl) (by kernel_rfl) (by kernel_rfl) (e := Extern.AbiNoEscape.same) (by kernel_rfl)]
  rw [Lib.run_noEscape]
  simp only [Result.andThen]
  rw [Oper.upon_value]
  go_wp2
  rw [Lib.run_from_unsafe w ⟨b, 0, none⟩ Tryz.underlying164 Tryz.underlying138 hj hsh bldLies]
  simp only [Result.andThen]
  rw [Oper.upon_value]
  go_wp2
  go_end0
  exact ⟨rfl, rfl⟩

theorem bld_cell {w : World} {b : Nat} {cs : Array Value} {T : TypeId} {fr : Nat × Nat} (hb : w.heap[b]? = some (.cells cs T fr)) (j : Nat) : w.cell? ⟨b, j, none⟩ = cs[j]? := by
  simp [World.cell?, hb]
theorem bldCheck (b : Nat) (w : World) (p v : Value) (hb : w.heap[b]? = some (.cells #[p, v] 141 (0, 0))) (hp : p = .pointer none ∨ p = .pointer (some ⟨b, 0, none⟩)) :
    Calls Tryz.prog 104 #[.pointer (some ⟨b, 0, none⟩)] w fun e w' => e = .returned (.tuple #[]) ∧ OnlyB b w w' ∧ w'.heap[b]? = some (.cells #[.pointer (some ⟨b, 0, none⟩), v] 141 (0, 0)) := by
  rcases hp with rfl | rfl
  · refine (bldCheck_fresh b w (by rw [bld_cell hb]; rfl) (by simp [World.shape?, hb]) (by simp [World.frozen?, hb])).mono ?_
    rintro e w' ⟨rfl, rfl⟩
    refine ⟨rfl, onlyB_setCell _ _ _ _, ?_⟩
    simp [World.setCell, Array.getElem?_modify, hb]
  · refine (bldCheck_used b w (by rw [bld_cell hb]; rfl)).mono ?_
    rintro e w' ⟨rfl, rfl⟩
    exact ⟨rfl, OnlyB.refl _ _, hb⟩

theorem wpList_append_run {P : Program} {ops : Array Oper} {rest : List Oper} {o : Oper} {a : Act} {w : World} {Q : Exit → Act → World → Prop} (hgd : o.guard = none) (sl x : Operand) (t u : TypeId)
    (ho : o.op = .call { callee := .builtin .append, args := #[sl, x], argTypes := #[t, u] }) (v y v' : Value) (w' : World) (hs : a.eval sl = v) (hx : a.eval x = y)
    (hr : ∀ ty, (Builtin.append_ #[t, u] ty #[v, y]).run P w = .ok v' w') (h : wpList P ops Q rest (a.put o.dst v') w') : wpList P ops Q (o :: rest) a w := by
  refine wpList_plain hgd fun K hK => ?_
  unfold Oper.wp execOp
  simp only [ho, resolve, invoke, builtin, Sem.run_bind, Sem.run_pure, Result.andThen_ok, List.map_toArray, List.map_cons, List.map_nil, hs, hx, hr o.type]
  exact hK _ _ h

set_option maxHeartbeats 2000000 in
theorem bldWrite (b : Nat) (w : World) (p v : Value) (s : ByteArray) (R : World → Prop) (hb : w.heap[b]? = some (.cells #[p, v] 141 (0, 0))) (hp : p = .pointer none ∨ p = .pointer (some ⟨b, 0, none⟩))
    (hv : ∀ w1, OnlyB b w w1 → w1.heap[b]? = some (.cells #[.pointer (some ⟨b, 0, none⟩), v] 141 (0, 0)) → ∃ w2 v2 p2 v0, (∀ ty, (Builtin.append_ #[139, 9] ty #[v, .string s]).run Tryz.prog w1 = .ok v2 w2) ∧ w2.heap[b]? = some (.cells #[p2, v0] 141 (0, 0)) ∧
      (∃ a n c, v2 = .slice a n c) ∧ R (w2.setCell ⟨b, 1, none⟩ v2)) :
    Calls Tryz.prog 89 #[.pointer (some ⟨b, 0, none⟩), .string s] w fun e w' => e = .returned (.tuple #[.int .i64 s.size, .nilIface]) ∧ R w' := by
  go_enter Tryz.func89, Tryz.ntmps89
  go_wp2_with (go_at_call 104; refine (bldCheck b _ p v hb hp).mono ?_)
  rintro e w1 ⟨rfl, ho, hb1⟩
  obtain ⟨w2, v2, p2, v0, hap, hb2, ⟨a, n, c, rfl⟩, hR⟩ := hv w1 ho hb1
  have c0 : w1.cell? ⟨b, 0, none⟩ = some (.pointer (some ⟨b, 0, none⟩)) := by rw [bld_cell hb1]; rfl
  have c1 : w1.cell? ⟨b, 1, none⟩ = some v := by rw [bld_cell hb1]; rfl
  have d0 : w2.cell? ⟨b, 0, none⟩ = some p2 := by rw [bld_cell hb2]; rfl
  have d1 : w2.cell? ⟨b, 1, none⟩ = some v0 := by rw [bld_cell hb2]; rfl
  have f1 : w2.frozen? ⟨b, 1, none⟩ = false := by simp [World.frozen?, hb2]
  go_wp2_with (at_builtin; refine wpList_append_run rfl _ _ 139 9 rfl v (.string s) (.slice a n c) w2 rfl rfl hap ?_)
  go_ret2
  exact ⟨rfl, hR⟩

/-- the bytes of a text, one behind the other -/
def bytesA (s : ByteArray) : List AV := s.data.toList.map fun b : UInt8 => AV.p (PV.int .u8 (b.toNat : Int))
theorem bytesA_len (s : ByteArray) : (bytesA s).length = s.size := by unfold bytesA; rw [List.length_map]; exact Array.length_toList
theorem strT9 : isStringT Tryz.prog 9 = true := by kernel_rfl

/-- A TEXT WRITTEN INTO A BUILDER OF ONE'S OWN -/
theorem hBldWrite {h h1 : Heap} {i : Nat} {x x' : AV} {s : ByteArray} (hi : h[i]? = some (.bld 141 5 x)) (hs0 : s.size ≤ room)
    (hx : x = .p .nilslice ∨ ∃ j n xs, x = .slice j n 0 n ∧ h[j]? = some (.row 1 xs) ∧ xs.length = n ∧ n + s.size ≤ room)
    (hap : aAppend Tryz.prog 139 9 x (.p (.str s)) h = .val x' h1) (hi1 : h1[i]? = some (.bld 141 5 x)) (hx' : x' = .p .nilslice ∨ ∃ j n, x' = .slice j n 0 n) :
    HCall Tryz.prog 89 [.ref .bl i, .p (.str s)] h (fun r h' => r = .ret (.p (.tuple [.int .i64 s.size, .niliface])) ∧ h' = h1.set i (.bld 141 5 x')) := by
  intro M0 m w cargs hS ha
  have hn := ha.1
  have ha0 := ha.2 0 _ rfl
  have ha1 := ha.2 1 _ rfl
  obtain ⟨c0, c1, rfl⟩ : ∃ c0 c1, cargs = #[c0, c1] := ⟨cargs.getD 0 undef, cargs.getD 1 undef, by
    apply Array.ext
    · simpa using hn
    · intro i h1 h2
      have : i = 0 ∨ i = 1 := by simp at h2; omega
      rcases this with rfl | rfl <;> simp [h1]⟩
  have ha1' : RepP (Avoid M0 m) w c1 (.str s) := ha1
  cases ha1'
  obtain ⟨b, p, v, hm, hb, hp, hxf, hr, hsh⟩ := hS.obj i _ hi
  have hm' : m.getD i none = some b := hm
  obtain rfl : c0 = .pointer (some ⟨b, 0, none⟩) := by
    rcases ha0.2 with hd | ⟨_, b', hb', hv⟩
    · have hd' : h[i]? = some .dead := hd
      rw [hi] at hd'; cases hd'
    · have hb2 : m.getD i none = some b' := hb'
      rw [hm'] at hb2
      cases hb2
      exact hv
  have hb0 : w.heap[b]? = some (.cells #[p, v] 141 (0, 0)) := hb
  refine ⟨(fun w' => enter_run Tryz.func89 ok89 _ w'), ?_⟩
  refine (bldWrite b w p v s (fun w' => ∃ m', Ev h.length ⟨m, h, w⟩ ⟨m', h1.set i (.bld 141 5 x'), w'⟩ ∧ HOk Tryz.prog M0 ⟨m', h1.set i (.bld 141 5 x'), w'⟩) hb0 hp ?_).mono ?_
  · intro w1 ho hb1
    obtain ⟨k1, e1⟩ := bld_ok (S := ⟨m, h, w⟩) hS hi hm' hb0 ho hb1 (.inr rfl) hxf hr hsh
    rw [show (Mem.mk m h w).h.set i (.bld 141 5 x) = h from same_set hi] at k1 e1
    have hr1 : Rep0 M0 ⟨m, h, w1⟩ v x := e1.rep0 hr (rep0_below hr)
    have hvx : Rep M0 ⟨m, h, w1⟩ v x := by
      rcases hxf with rfl | ⟨j, n, rfl⟩
      · exact hr1
      · exact hr1
    have hap1 := append_ok (P := Tryz.prog) (T := 139) (U := 9) (ty := 0) k1 hvx (show Rep M0 ⟨m, h, w1⟩ (.string s) (.p (.str s)) from RepP.str s)
    rw [show (Mem.mk m h w1).h = h from rfl, hap] at hap1
    obtain ⟨S2, v2, hS2, hrun, e2, k2, hr2⟩ := hap1
    obtain ⟨m2, h2, w2⟩ := S2
    obtain rfl : h1 = h2 := hS2.symm
    have hrun' : ∀ ty, (Builtin.append_ #[139, 9] ty #[v, .string s]).run Tryz.prog w1 = .ok v2 w2 := fun ty => hrun
    obtain ⟨b2, p2, v0, hm2, hb2, hp2, _, _, _⟩ := k2.obj i _ hi1
    have hbb : b2 = b := by
      obtain ⟨o', ho', hoe⟩ := e2.obj i _ (List.getElem?_eq_some_iff.1 hi).1 hi
      have ho2 : h1[i]? = some o' := ho'
      rw [hi1] at ho2
      cases ho2
      rcases hoe with he | ⟨_, _, _, he, _⟩ | ⟨_, _, he⟩
      · cases he
      · cases he
      · have : m2.getD i none = m.getD i none := he
        rw [hm'] at this
        have hm2' : m2.getD i none = some b2 := hm2
        rw [this] at hm2'
        cases hm2'
        rfl
    subst hbb
    have hb2' : w2.heap[b2]? = some (.cells #[p2, v0] 141 (0, 0)) := hb2
    have hsl : ∃ a n c, v2 = .slice a n c := by
      rcases hx' with rfl | ⟨j, n, rfl⟩
      · have h' : RepP (Avoid M0 m2) w2 v2 .nilslice := hr2
        cases h'
        exact ⟨_, _, _, rfl⟩
      · exact hr2.1
    have hsh2 := append_shape (P := Tryz.prog) (T := 139) (U := 9) (e := 5) (ty := 0) k1 hx hs0 hr1 (by kernel_rfl) strT9 (by kernel_rfl) (by kernel_rfl) (by kernel_rfl)
      (fun a n c hv => by
        obtain ⟨N, hN⟩ := hsh a n c hv
        exact ⟨N, (e1.fr.shape _ (shape_lt hN)).trans hN⟩) (hrun' 0) (fun c hc => e2.fr.shape c hc)
    have hr2' : Rep0 M0 ⟨m2, h1, w2⟩ v2 x' := by
      rcases hx' with rfl | ⟨j, n, rfl⟩
      · exact hr2
      · exact hr2
    refine ⟨w2, v2, p2, v0, hrun', hb2', hsl, m2, ?_⟩
    obtain ⟨k3, e3⟩ := bld_ok (S := ⟨m2, h1, w2⟩) (w' := w2.setCell ⟨b2, 1, none⟩ v2) (p' := p2) (v' := v2) (x' := x') k2 hi1 hm2 hb2' (onlyB_setCell _ _ _ _) (by simp [World.setCell, Array.getElem?_modify, hb2']) hp2 hx' hr2' hsh2
    exact ⟨(e1.trans e2).trans (e3.mono (e2.len (Nat.le_refl _))), k3⟩
  · rintro e w' ⟨rfl, m', hev, hk⟩
    exact ⟨.ret (.p (.tuple [.int .i64 s.size, .niliface])), _, m', ⟨rfl, rfl⟩, hev, hk, rep_two (.int _ _) .niliface⟩

theorem onlyB_freeze (w : World) (p : Addr) (n : Nat) : OnlyB p.block w (w.freeze p n) := by
  unfold World.freeze
  split
  · exact OnlyB.refl _ _
  · exact ⟨rfl, rfl, rfl, by simp, fun k hk => by simp only [Array.getElem?_modify]; rw [if_neg (Ne.symm hk)]⟩
theorem freeze_shape (w : World) (p : Addr) (n c : Nat) : (w.freeze p n).shape? c = w.shape? c := by
  unfold World.freeze
  split
  · rfl
  · unfold World.shape?
    simp only [Array.getElem?_modify]
    by_cases hc : p.block = c
    · rw [if_pos hc]
      subst hc
      cases w.heap[p.block]? with
      | none => rfl
      | some o => cases o <;> rfl
    · rw [if_neg hc]
theorem u8Cells : Tryz.prog.cellsOf 5 = 1 := by kernel_rfl

set_option maxHeartbeats 2000000 in
theorem bldStr_row (b g cap N : Nat) (w : World) (p : Value) (l : List UInt8) (h0 : l ≠ []) (hb : w.heap[b]? = some (.cells #[p, .slice (some ⟨g, 0, none⟩) l.length cap] 141 (0, 0)))
    (hg : w.shape? g = some (5, N)) (hN : l.length ≤ N) (hc : l.length ≤ cap) (h63 : l.length ≤ 9223372036854775807) (hcell : ∀ j x, l[j]? = some x → w.cell? ⟨g, j, none⟩ = some (.int .u8 x.toNat)) :
    Calls Tryz.prog 91 #[.pointer (some ⟨b, 0, none⟩)] w fun e w' => e = .returned (.string ⟨l.toArray⟩) ∧ w' = w.drew.freeze ⟨g, 0, none⟩ l.length := by
  have hl0 : l.length ≠ 0 := by simpa using h0
  have c1 : w.drew.cell? ⟨b, 1, none⟩ = some (.slice (some ⟨g, 0, none⟩) l.length cap) := by
    have : w.drew.heap[b]? = some (.cells #[p, .slice (some ⟨g, 0, none⟩) l.length cap] 141 (0, 0)) := hb
    rw [bld_cell this]; rfl
  have hSD : (Builtin.unsafeSliceData_ #[139] 156 #[.slice (some ⟨g, 0, none⟩) l.length cap]).run Tryz.prog w.drew = .ok (.pointer (some ⟨g, 0, none⟩)) w.drew :=
    Lib.run_unsafeSliceData_row _ _ _ _ _ _ (by omega)
  have hUS : (Builtin.unsafeString_ #[156, 3] 9 #[.pointer (some ⟨g, 0, none⟩), .int .i64 l.length]).run Tryz.prog w.drew = .ok (.string ⟨l.toArray⟩) (w.drew.freeze ⟨g, 0, none⟩ l.length) :=
    Lib.run_unsafeString_row w.drew 156 3 9 5 Tryz.underlying156 u8Cells g N hg l h0 hN h63 (fun j x hx => by rw [add_none, Nat.zero_add]; exact hcell j x hx)
  go_enter Tryz.func91, Tryz.ntmps91
  go_wp2
  go_region
  all_goals (go_wp2; go_ret; exact ⟨rfl, rfl⟩)

set_option maxHeartbeats 2000000 in
theorem bldStr_nil (b : Nat) (w : World) (p : Value) (hb : w.heap[b]? = some (.cells #[p, .slice none 0 0] 141 (0, 0))) :
    Calls Tryz.prog 91 #[.pointer (some ⟨b, 0, none⟩)] w fun e w' => e = .returned (.string .empty) ∧ w' = w.drew := by
  have c1 : w.drew.cell? ⟨b, 1, none⟩ = some (.slice none 0 0) := by
    have : w.drew.heap[b]? = some (.cells #[p, .slice none 0 0] 141 (0, 0)) := hb
    rw [bld_cell this]; rfl
  have hUS : ∀ W : World, (Builtin.unsafeString_ #[156, 3] 9 #[.pointer none, .int .i64 0]).run Tryz.prog W = .ok (.string .empty) W := fun W => Lib.run_unsafeString_none W _ _ _ none
  have hSD : (Builtin.unsafeSliceData_ #[139] 156 #[.slice none 0 0]).run Tryz.prog w.drew = .ok (.pointer none) w.drew := rfl
  go_enter Tryz.func91, Tryz.ntmps91
  go_wp2
  go_region
  all_goals (go_wp2; go_ret; exact ⟨rfl, rfl⟩)

/-- WHAT A BUILDER OF ONE'S OWN HOLDS; its row is given up -/
theorem hBldString {h : Heap} {i j : Nat} {s : ByteArray} (hi : h[i]? = some (.bld 141 5 (.slice j s.size 0 s.size))) (hj : h[j]? = some (.row 1 (bytesA s))) (h0 : s.size ≠ 0) (h63 : s.size ≤ 9223372036854775807) :
    HCall Tryz.prog 91 [.ref .bl i] h (fun r h' => r = .ret (.p (.str s)) ∧ h' = h.set j .dead) := by
  intro M0 m w cargs hS ha
  have hn := ha.1
  have ha0 := ha.2 0 _ rfl
  obtain ⟨c0, rfl⟩ : ∃ c0, cargs = #[c0] := ⟨cargs.getD 0 undef, by
    apply Array.ext
    · simpa using hn
    · intro i h1 h2
      have : i = 0 := by simp at h2; omega
      subst this
      simp [h1]⟩
  obtain ⟨b, p, v, hm, hb, hp, hxf, hr, hsh⟩ := hS.obj i _ hi
  have hm' : m.getD i none = some b := hm
  obtain rfl : c0 = .pointer (some ⟨b, 0, none⟩) := by
    rcases ha0.2 with hd | ⟨_, b', hb', hv⟩
    · have hd' : h[i]? = some .dead := hd
      rw [hi] at hd'; cases hd'
    · have hb2 : m.getD i none = some b' := hb'
      rw [hm'] at hb2
      cases hb2
      exact hv
  have hb0 : w.heap[b]? = some (.cells #[p, v] 141 (0, 0)) := hb
  refine ⟨fun w' => Go.Proofs.enters_of Tryz.func91 (by kernel_rfl) rfl _ w', ?_⟩
  have hlen : s.data.toList.length = s.size := Array.length_toList
  rcases live_row hr.2 hj (bytesA_len s) with ⟨h1, h2, h3, _⟩ | ⟨g, cap, T', N, hmg, rfl, hcap, hsh2, hfit, hreach⟩ | ⟨_, rfl, h00⟩
  · exact absurd h1 h0
  · obtain ⟨C, T2, hb2, hsize2, hel2⟩ := row_block hS hj hmg
    have hgs : w.shape? g = some (5, C.size) := by
      obtain ⟨N', hN'⟩ := hsh _ _ _ rfl
      have hN2 : w.shape? g = some (5, N') := hN'
      have hb3 : w.heap[g]? = some (.cells C T2 (0, 0)) := hb2
      unfold World.shape? at hN2 ⊢
      rw [hb3] at hN2 ⊢
      simp at hN2 ⊢
      exact hN2.1
    have hsz : s.size ≤ C.size := by
      have : (bytesA s).length * 1 ≤ C.size := hsize2
      rw [bytesA_len] at this
      omega
    have hv : (Value.slice (some ⟨g, 0 * 1, none⟩) s.size cap) = .slice (some ⟨g, 0, none⟩) s.data.toList.length cap := by rw [Nat.zero_mul, hlen]
    rw [hv] at hb0
    have hcells : ∀ (k : Nat) (x : UInt8), s.data.toList[k]? = some x → w.cell? ⟨g, k, none⟩ = some (.int .u8 x.toNat) := by
      intro k x hx
      obtain ⟨cs, a1, a2, a3⟩ := hel2 k (.p (.int .u8 x.toNat)) (by simp [bytesA, hx])
      cases a1
      have a4 := (a3 0 _ rfl).2
      have a5 : RepP (Avoid M0 m) w (C.getD (k * 1 + 0) undef) (.int .u8 x.toNat) := a4
      have hk : k < C.size := by have := (List.getElem?_eq_some_iff.1 hx).1; omega
      have hb3 : w.heap[g]? = some (.cells C T2 (0, 0)) := hb2
      rw [cell_block hb3 k hk]
      rw [Nat.mul_one, Nat.add_zero] at a5
      generalize C.getD k undef = z at a5 ⊢
      cases a5
      rfl
    refine (bldStr_row b g cap C.size w p s.data.toList (by intro hc; rw [hc] at hlen; simp at hlen; omega) hb0 hgs (by omega) (by rw [hlen]; exact hcap.1) (by omega) hcells).mono ?_
    rintro e w' ⟨rfl, rfl⟩
    have hof : OnlyB g w (w.drew.freeze ⟨g, 0, none⟩ s.data.toList.length) := by
      have := onlyB_freeze w.drew ⟨g, 0, none⟩ s.data.toList.length
      exact ⟨this.os, this.tape, this.output, this.size, this.block⟩
    obtain ⟨hk, hev⟩ := set_dead_ok (S := ⟨m, h, w⟩) hS j (w' := w.drew.freeze ⟨g, 0, none⟩ s.data.toList.length)
      ⟨hof.os, hof.tape, hof.output, Nat.le_of_eq hof.size.symm, fun c _ hc => hof.block c (fun e => hc (e ▸ List.mem_of_getElem? (getD_some_get hmg))), fun c _ => freeze_shape w.drew _ _ c⟩
      (fun x bl hx hbl => hof.block bl fun e => hx (hS.inj x j bl (getD_some_get hbl) (e ▸ getD_some_get hmg)))
    exact ⟨.ret (.p (.str s)), _, m, ⟨rfl, rfl⟩, hev, hk, RepP.str s⟩
  · exact absurd h00 h0
theorem hBldEmpty {h : Heap} {i : Nat} (hi : h[i]? = some (.bld 141 5 (.p .nilslice))) : HCall Tryz.prog 91 [.ref .bl i] h (fun r h' => r = .ret (.p (.str .empty)) ∧ h' = h) := by
  intro M0 m w cargs hS ha
  have hn := ha.1
  have ha0 := ha.2 0 _ rfl
  obtain ⟨c0, rfl⟩ : ∃ c0, cargs = #[c0] := ⟨cargs.getD 0 undef, by
    apply Array.ext
    · simpa using hn
    · intro i h1 h2
      have : i = 0 := by simp at h2; omega
      subst this
      simp [h1]⟩
  obtain ⟨b, p, v, hm, hb, hp, hxf, hr, hsh⟩ := hS.obj i _ hi
  have hm' : m.getD i none = some b := hm
  obtain rfl : c0 = .pointer (some ⟨b, 0, none⟩) := by
    rcases ha0.2 with hd | ⟨_, b', hb', hv⟩
    · have hd' : h[i]? = some .dead := hd
      rw [hi] at hd'; cases hd'
    · have hb2 : m.getD i none = some b' := hb'
      rw [hm'] at hb2
      cases hb2
      exact hv
  have hv : RepP (Avoid M0 m) w v .nilslice := hr
  cases hv
  have hb0 : w.heap[b]? = some (.cells #[p, .slice none 0 0] 141 (0, 0)) := hb
  refine ⟨fun w' => Go.Proofs.enters_of Tryz.func91 (by kernel_rfl) rfl _ w', (bldStr_nil b w p hb0).mono ?_⟩
  rintro e w' ⟨rfl, rfl⟩
  exact ⟨.ret (.p (.str .empty)), _, m, ⟨rfl, rfl⟩, Ev.drew _ ⟨m, h, w⟩, HOk.drew hS, RepP.str _⟩
end Abs
end Go.Proofs.YtdellinghbppgaaGreatDoor

namespace Go.Proofs.YtdellinghbppgaaGreatDoor
namespace Abs
set_option linter.unusedSimpArgs false
set_option maxRecDepth 4000

def bs (l : List UInt8) : ByteArray := ⟨l.toArray⟩
theorem bs_data (l : List UInt8) : (bs l).data.toList = l := rfl
theorem bs_size (l : List UInt8) : (bs l).size = l.length := by simp [bs, ByteArray.size]
theorem bs_eta (s : ByteArray) : bs s.data.toList = s := by cases s; rfl
theorem bs_extract (l : List UInt8) (i j : Nat) : (bs l).extract i j = bs ((l.take j).drop i) := by
  apply ByteArray.ext
  rw [ByteArray.data_extract]
  simp [bs, List.drop_take]
theorem bs_append (a b : List UInt8) : bs a ++ bs b = bs (a ++ b) := by
  apply ByteArray.ext
  simp [bs]
theorem bs_inj {a b : List UInt8} : bs a = bs b ↔ a = b :=
  ⟨fun h => by have := congrArg (fun s : ByteArray => s.data.toList) h; simpa [bs_data] using this, fun h => h ▸ rfl⟩
theorem baBeq (x y : ByteArray) : (x == y) = true ↔ x = y := by
  cases x with
  | mk a =>
    cases y with
    | mk b =>
      show (a == b) = true ↔ _
      rw [beq_iff_eq]
      exact ⟨fun h => h ▸ rfl, fun h => by cases h; rfl⟩
theorem bs_beq (a b : List UInt8) : (bs a == bs b) = (a == b) := by
  rw [Bool.eq_iff_iff, baBeq, beq_iff_eq, bs_inj]

/-- cut at the first such byte -/
def cutL (c : UInt8) : List UInt8 → List UInt8 × Option (List UInt8)
  | [] => ([], none)
  | x :: r => if x = c then ([], some r) else (x :: (cutL c r).1, (cutL c r).2)
theorem idx_cut (c : UInt8) : ∀ l : List UInt8, ((cutL c l).2 = none ∧ (cutL c l).1 = l ∧ Lib.indexByte l c = -1) ∨
    ∃ r, (cutL c l).2 = some r ∧ Lib.indexByte l c = ((cutL c l).1.length : Int) ∧ l = (cutL c l).1 ++ c :: r
  | [] => .inl ⟨rfl, rfl, rfl⟩
  | x :: l => by
    unfold cutL Lib.indexByte
    by_cases hx : x = c
    · subst hx
      simp
    · have hb : (x == c) = false := by simpa using hx
      rw [if_neg hx, hb]
      simp only [Bool.false_eq_true, if_false]
      rcases idx_cut c l with ⟨h1, h2, h3⟩ | ⟨r, h1, h2, h3⟩
      · exact .inl ⟨h1, by simp [h2], by simp [h3]⟩
      · refine .inr ⟨r, h1, ?_, ?_⟩
        · rw [h2]
          have : ¬ ((((cutL c l).1.length : Int) == -1) = true) := by simp
          rw [if_neg this]
          simp
        · simp [← h3]
theorem cutL_len (c : UInt8) : ∀ (l r : List UInt8), (cutL c l).2 = some r → r.length < l.length := by
  intro l r h
  rcases idx_cut c l with ⟨h1, _⟩ | ⟨r', h1, _, h3⟩
  · rw [h1] at h; cases h
  · rw [h1] at h; cases h
    have := congrArg List.length h3
    simp at this; omega

theorem cLiteCut (l : List UInt8) (c : UInt8) (hl : l.length < 1000000000) : PCall Tryz.prog 93 [.str (bs l), .str (bs [c])] (.tuple [.str (bs (cutL c l).1), .str (bs ((cutL c l).2.getD [])), .bool (cutL c l).2.isSome]) := by
  refine pcall_of_wp draws (fn := Tryz.f93) (n := 23) (rs := [.tmp 4, .tmp 5, .tmp 6]) (by kernel_rfl) rfl rfl rfl ok93 (Nat.le_of_ble_eq_true rfl) ?_
  simp (maxSteps := 400000) only [go_sem, simprocAttr]
  refine WF_pure (cIndexLite (bs l) c) rfl ?_
  rw [bs_data]
  rcases idx_cut c l with ⟨h1, h2, h3⟩ | ⟨r, h1, h2, h3⟩
  · simp (maxSteps := 400000) only [h1, h2, h3, go_sem, simprocAttr]
    exact ⟨rfl, rfl⟩
  · have hlen := congrArg List.length h3
    simp only [List.length_append, List.length_cons] at hlen
    have e0 : decide ((0 : Int) ≤ ((cutL c l).1.length : Int)) = true := by simp
    have e1 : (((cutL c l).1.length : Int) ≤ ((bs l).size : Int)) := by rw [bs_size]; omega
    have e2 : IntKind.i64.wrap (((cutL c l).1.length : Int) + (((bs [c]).size : Nat) : Int)) = (((cutL c l).1.length + 1 : Nat) : Int) := by
      rw [bs_size]
      exact wrap_add (by omega) (by simp [room]; omega) (by simp)
    have e3 : ((((cutL c l).1.length + 1 : Nat) : Int) ≤ ((bs l).size : Int)) := by rw [bs_size]; omega
    have e4 : (bs l).extract 0 (cutL c l).1.length = bs (cutL c l).1 := by
      rw [bs_extract, List.drop_zero]
      congr 1
      have := congrArg (List.take (cutL c l).1.length) h3
      rw [List.take_left'] at this
      · exact this
      · rfl
    have e5 : (bs l).extract ((cutL c l).1.length + 1) (bs l).size = bs r := by
      rw [bs_extract, bs_size, List.take_length]
      congr 1
      have := congrArg (List.drop ((cutL c l).1.length + 1)) h3
      rw [this]
      simp
    simp (maxSteps := 400000) only [h1, h2, e0, e1, e2, e3, e4, e5, go_sem, simprocAttr]
    try exact ⟨rfl, rfl⟩
theorem cStrCut (l : List UInt8) (c : UInt8) (hl : l.length < 1000000000) : PCall Tryz.prog 56 [.str (bs l), .str (bs [c])] (.tuple [.str (bs (cutL c l).1), .str (bs ((cutL c l).2.getD [])), .bool (cutL c l).2.isSome]) := by
  refine pcall_of_wp draws (fn := Tryz.f56) (n := 13) (rs := [.tmp 4, .tmp 5, .tmp 6]) (by kernel_rfl) rfl rfl rfl ok56 (Nat.le_of_ble_eq_true rfl) ?_
  simp (maxSteps := 400000) only [go_sem, simprocAttr]
  refine WF_pure (cLiteCut l c hl) rfl ?_
  simp (maxSteps := 400000) only [go_sem, simprocAttr]

/-- without this byte at its end -/
def trimL (c : UInt8) (l : List UInt8) : List UInt8 := if l.getLast? = some c then l.dropLast else l
theorem cHasSuffix (l : List UInt8) (c : UInt8) (hl : l.length < 1000000000) : PCall Tryz.prog 114 [.str (bs l), .str (bs [c])] (.bool (decide (l.getLast? = some c))) := by
  refine pcall_of_wp draws (fn := Tryz.f114) (n := 21) (rs := [.tmp 4]) (by kernel_rfl) rfl rfl rfl ok114 (Nat.le_of_ble_eq_true rfl) ?_
  rcases List.eq_nil_or_concat l with rfl | ⟨a, x, rfl⟩
  · have e1 : decide ((((bs [c]).size : Nat) : Int) ≤ (((bs []).size : Nat) : Int)) = false := by rw [bs_size, bs_size]; simp
    simp (maxSteps := 400000) only [e1, go_sem, simprocAttr]
    simp
  · rw [List.concat_eq_append] at hl ⊢
    have e1 : decide ((((bs [c]).size : Nat) : Int) ≤ (((bs (a ++ [x])).size : Nat) : Int)) = true := by rw [bs_size, bs_size]; simp <;> omega
    have e2 : IntKind.i64.wrap ((((bs (a ++ [x])).size : Nat) : Int) - (((bs [c]).size : Nat) : Int)) = ((a.length : Nat) : Int) := by
      rw [bs_size, bs_size, wrap_small (by simp) (by simp [room] at hl ⊢; omega)]
      simp
    have e3 : ((a.length : Nat) : Int) ≤ (((bs (a ++ [x])).size : Nat) : Int) := by rw [bs_size]; simp <;> omega
    have e4 : (bs (a ++ [x])).extract a.length (bs (a ++ [x])).size = bs [x] := by
      rw [bs_extract, bs_size, List.take_length]
      simp
    have e5 : (bs [x] == bs [c]) = decide ((a ++ [x]).getLast? = some c) := by
      rw [bs_beq, List.getLast?_concat, Bool.eq_iff_iff]
      simp
    simp (maxSteps := 400000) only [e1, e2, e3, e4, e5, go_sem, simprocAttr]
theorem cLiteTrim (l : List UInt8) (c : UInt8) (hl : l.length < 1000000000) : PCall Tryz.prog 97 [.str (bs l), .str (bs [c])] (.str (bs (trimL c l))) := by
  refine pcall_of_wp draws (fn := Tryz.f97) (n := 16) (rs := [.tmp 4]) (by kernel_rfl) rfl rfl rfl ok97 (Nat.le_of_ble_eq_true rfl) ?_
  simp (maxSteps := 400000) only [go_sem, simprocAttr]
  refine WF_pure (cHasSuffix l c hl) rfl ?_
  by_cases h : l.getLast? = some c
  · have e1 : IntKind.i64.wrap ((((bs l).size : Nat) : Int) - (((bs [c]).size : Nat) : Int)) = ((l.length - 1 : Nat) : Int) := by
      have : l ≠ [] := by rintro rfl; simp at h
      have : 0 < l.length := List.length_pos_iff.2 this
      rw [bs_size, bs_size, wrap_small (by simp; omega) (by simp [room]; omega)]
      simp; omega
    have e2 : ((l.length - 1 : Nat) : Int) ≤ (((bs l).size : Nat) : Int) := by rw [bs_size]; omega
    have e3 : (bs l).extract 0 (l.length - 1) = bs l.dropLast := by rw [bs_extract, List.drop_zero, List.dropLast_eq_take]
    simp (maxSteps := 400000) only [h, e1, e2, e3, trimL, if_pos h, go_sem, simprocAttr]
  · simp (maxSteps := 400000) only [h, trimL, if_neg h, go_sem, simprocAttr]
theorem cTrimSuffix (l : List UInt8) (c : UInt8) (hl : l.length < 1000000000) : PCall Tryz.prog 63 [.str (bs l), .str (bs [c])] (.str (bs (trimL c l))) := by
  refine pcall_of_wp draws (fn := Tryz.f63) (n := 8) (rs := [.tmp 4]) (by kernel_rfl) rfl rfl rfl ok63 (Nat.le_of_ble_eq_true rfl) ?_
  simp (maxSteps := 400000) only [go_sem, simprocAttr]
  refine WF_pure (cLiteTrim l c hl) rfl ?_
  simp (maxSteps := 400000) only [go_sem, simprocAttr]
end Abs
end Go.Proofs.YtdellinghbppgaaGreatDoor

namespace Go.Proofs.YtdellinghbppgaaGreatDoor
namespace Abs
set_option linter.unusedSimpArgs false
set_option maxRecDepth 4000

/-- the parts between such bytes -/
def splitL (c : UInt8) : List UInt8 → List (List UInt8)
  | [] => [[]]
  | x :: r => if x = c then [] :: splitL c r else match splitL c r with | [] => [[x]] | a :: t => (x :: a) :: t
theorem splitL_cut (c : UInt8) : ∀ l : List UInt8, splitL c l = (cutL c l).1 :: (match (cutL c l).2 with | none => [] | some r => splitL c r)
  | [] => rfl
  | x :: r => by
    by_cases hx : x = c
    · simp only [splitL, cutL, if_pos hx]
    · simp only [splitL, cutL, if_neg hx]
      rw [splitL_cut c r]
theorem splitL_none {c : UInt8} {l : List UInt8} (h : (cutL c l).2 = none) : splitL c l = [l] := by
  rcases idx_cut c l with ⟨h1, h2, h3⟩ | ⟨r, h1, _⟩
  · rw [splitL_cut, h1, h2]
  · rw [h1] at h; cases h
theorem splitL_some {c : UInt8} {l r : List UInt8} (h : (cutL c l).2 = some r) : splitL c l = (cutL c l).1 :: splitL c r := by
  rw [splitL_cut, h]
theorem splitL_count (c : UInt8) : ∀ l : List UInt8, (splitL c l).length = l.count c + 1
  | [] => rfl
  | x :: r => by
    have ih := splitL_count c r
    unfold splitL
    by_cases hx : x = c
    · subst hx
      simp [ih]
    · rw [if_neg hx, List.count_cons_of_ne hx]
      cases hs : splitL c r with
      | nil => rw [hs] at ih; simp at ih
      | cons a t => rw [hs] at ih; simpa using ih
theorem splitL_pos (c : UInt8) (l : List UInt8) : 0 < (splitL c l).length := by rw [splitL_count]; omega
theorem splitL_le (c : UInt8) (l : List UInt8) : (splitL c l).length ≤ l.length + 1 := by rw [splitL_count]; have := List.count_le_length (a := c) (l := l); omega

def strsPV (l : List (List UInt8)) : PV := .slice 1 (l.map fun x => .str (bs x)) false
/-- the row under way -/
def splitRow (N : Nat) (done : List (List UInt8)) : List AV := (done.map fun x => AV.p (.str (bs x))) ++ List.replicate (N - done.length) (AV.p (.str ⟨#[]⟩))
theorem splitRow_len {N : Nat} {done : List (List UInt8)} (h : done.length ≤ N) : (splitRow N done).length = N := by simp [splitRow]; omega
theorem splitRow_at {N : Nat} {done : List (List UInt8)} (h : done.length < N) : (splitRow N done)[done.length]? = some (AV.p (.str ⟨#[]⟩)) := by
  unfold splitRow
  rw [List.getElem?_append_right (by simp), List.getElem?_replicate]
  simp; omega
theorem splitRow_set {N : Nat} {done : List (List UInt8)} (x : List UInt8) (h : done.length < N) : (splitRow N done).set done.length (AV.p (.str (bs x))) = splitRow N (done ++ [x]) := by
  unfold splitRow
  rw [List.set_append_right _ _ (by simp)]
  obtain ⟨k, hk⟩ : ∃ k, N - done.length = k + 1 := ⟨N - done.length - 1, by omega⟩
  have hk2 : N - (done ++ [x]).length = k := by simp; omega
  rw [hk, hk2]
  simp [List.replicate_succ]
theorem splitRow_all {N : Nat} {done : List (List UInt8)} (h : done.length = N) : splitRow N done = done.map fun x => AV.p (.str (bs x)) := by
  unfold splitRow
  rw [h]; simp

theorem splitRow_below (n N : Nat) (done : List (List UInt8)) : ∀ x, x ∈ splitRow N done → below n x := by
  intro x hx
  simp only [splitRow, List.mem_append, List.mem_map, List.mem_replicate] at hx
  rcases hx with ⟨_, _, rfl⟩ | ⟨_, rfl⟩ <;> exact trivial
theorem cGenSplit (l : List UInt8) (c : UInt8) (hl : l.length < 1000000000) : PCall Tryz.prog 94 [.str (bs l), .str (bs [c]), .int .i64 0, .int .i64 (-1)] (strsPV (splitL c l)) := by
  refine pcall_of_wp_frz draws (fn := Tryz.f94) (n := 66) (rs := [.tmp 8]) (by kernel_rfl) rfl rfl rfl ok94 (Nat.le_of_ble_eq_true rfl) ?_
  have hsep : (bs [c] == (⟨#[]⟩ : ByteArray)) = false := by
    rw [show (⟨#[]⟩ : ByteArray) = bs [] from rfl, bs_beq]; rfl
  obtain ⟨N, hN⟩ : ∃ N, N = (splitL c l).length := ⟨_, rfl⟩
  have hN1 : 0 < N := hN ▸ splitL_pos c l
  have hNl : N ≤ l.length + 1 := hN ▸ splitL_le c l
  have hcnt : IntKind.i64.wrap ((Lib.countByte (bs l).data.toList c : Int) + 1) = (N : Int) := by
    refine wrap_add (by omega) (by simp [room]; omega) ?_
    rw [bs_data]
    unfold Lib.countByte
    rw [hN, splitL_count]; rfl
  simp (maxSteps := 400000) only [hsep, go_sem, simprocAttr]
  refine WF_pure (cCount (bs l) c) rfl ?_
  have hw : IntKind.i64.wrap ((((bs l).size : Nat) : Int) + 1) = ((l.length + 1 : Nat) : Int) := by
    rw [bs_size]; exact wrap_add (by omega) (by simp [room]; omega) (by simp)
  have hmin : ¬ (((l.length + 1 : Nat) : Int) < (N : Int)) := by omega
  have hroom : ((N : Int) ≤ ((room : Nat) : Int)) := by simp [room]; omega
  have hN2 : IntKind.i64.wrap ((N : Int) - 1) = ((N - 1 : Nat) : Int) := by rw [wrap_small (by omega) (by simp [room]; omega)]; omega
  simp (maxSteps := 400000) only [hcnt, hw, hmin, hroom, hN2, go_sem, simprocAttr]
  refine W_loopA [1, 2, 3, 9] (σ := List (List UInt8) × List UInt8) (fun q => splitL c l = q.1 ++ splitL c q.2 ∧ q.2.length ≤ l.length) (fun q => q.2.length)
    (fun q => [(0, .p (.str (bs q.2))), (10, .p (.int .i64 q.1.length))]) (fun q => [.row 1 (splitRow N q.1)]) ([], l) ⟨rfl, Nat.le_refl _⟩ ?_ ?_
  · simp (maxSteps := 400000) only [splitRow, go_sem, simprocAttr]
    all_goals first | (simp; done) | (simp; intro _; trivial)
  rintro ⟨done, r⟩ ⟨e1, e2⟩
  dsimp only at e1 e2
  have hlen := congrArg List.length e1
  rw [← hN, List.length_append] at hlen
  have hlt0 : done.length < N := by have := splitL_pos c r; omega
  have hrl := splitRow_len (Nat.le_of_lt hlt0)
  have hat := splitRow_at hlt0
  have hi0 : (done.length : Int) < (N : Int) := by omega
  rcases idx_cut c r with ⟨h1, h2, h3⟩ | ⟨r', h1, h2, h3⟩
  · have hs := splitL_none h1
    rw [hs, List.length_singleton] at hlen
    have hge : decide ((done.length : Int) < ((N - 1 : Nat) : Int)) = false := by simp; omega
    have hset := splitRow_set r hlt0
    have hall : splitRow N (done ++ [r]) = (splitL c l).map fun x => AV.p (.str (bs x)) := by rw [splitRow_all (by simp; omega), e1, hs]
    have hw2 : IntKind.i64.wrap ((done.length : Int) + 1) = (N : Int) := wrap_add (by omega) (by simp [room]; omega) (by omega)
    have hN3 : (splitL c l).length = N := hN.symm
    simp (maxSteps := 400000) only [hge, hrl, hat, hi0, hset, hall, hw2, hN3, go_sem, simprocAttr]
    rw [strsPV, Nat.sub_zero, List.take_of_length_le (by simp [hN3])]
  · have hs := splitL_some h1
    have hlt : decide ((done.length : Int) < ((N - 1 : Nat) : Int)) = true := by
      have := splitL_pos c r'
      have := congrArg List.length hs
      simp at this ⊢; omega
    have hset := splitRow_set (cutL c r).1 hlt0
    have hrlen := congrArg List.length h3
    simp only [List.length_append, List.length_cons] at hrlen
    simp (maxSteps := 400000) only [hlt, go_sem, simprocAttr]
    refine WF_pure (cIndex (bs r) c) rfl ?_
    have hd : Lib.indexByte (bs r).data.toList c = ((cutL c r).1.length : Int) := h2
    have f0 : decide (((cutL c r).1.length : Int) < 0) = false := by simp
    have f1 : IntKind.i64.wrap (((cutL c r).1.length : Int) + 0) = ((cutL c r).1.length : Int) := wrap_add (by omega) (by simp [room]; omega) (by simp)
    have f2 : (((cutL c r).1.length : Int) ≤ ((bs r).size : Int)) := by rw [bs_size]; omega
    have f3 : (bs r).extract 0 (cutL c r).1.length = bs (cutL c r).1 := by
      rw [bs_extract, List.drop_zero]
      congr 1
      have := congrArg (List.take (cutL c r).1.length) h3
      rw [List.take_left'] at this
      · exact this
      · rfl
    have f4 : IntKind.i64.wrap (((cutL c r).1.length : Int) + (((bs [c]).size : Nat) : Int)) = (((cutL c r).1.length + 1 : Nat) : Int) := by
      rw [bs_size]
      exact wrap_add (by omega) (by simp [room]; omega) (by simp)
    have f5 : ((((cutL c r).1.length + 1 : Nat) : Int) ≤ ((bs r).size : Int)) := by rw [bs_size]; omega
    have f6 : (bs r).extract ((cutL c r).1.length + 1) (bs r).size = bs r' := by
      rw [bs_extract, bs_size, List.take_length]
      congr 1
      have := congrArg (List.drop ((cutL c r).1.length + 1)) h3
      rw [this]
      simp
    have hnx : IntKind.i64.wrap ((done.length : Int) + 1) = (((done ++ [(cutL c r).1]).length : Nat) : Int) := wrap_add (by omega) (by simp [room]; omega) (by simp)
    simp (maxSteps := 400000) only [hd, f0, f1, f2, f3, f4, f5, f6, hrl, hat, hi0, hset, go_sem, simprocAttr]
    refine WQ_headA (done ++ [(cutL c r).1], r') ⟨by rw [e1, hs]; simp, by show r'.length ≤ l.length; omega⟩ (by show r'.length < r.length; omega) ?_
    simp (maxSteps := 400000) only [hnx, go_sem, simprocAttr]
    exact splitRow_below _ _ _

theorem cStrSplit (l : List UInt8) (c : UInt8) (hl : l.length < 1000000000) : PCall Tryz.prog 57 [.str (bs l), .str (bs [c])] (strsPV (splitL c l)) := by
  refine pcall_of_wp draws (fn := Tryz.f57) (n := 8) (rs := [.tmp 4]) (by kernel_rfl) rfl rfl rfl ok57 (Nat.le_of_ble_eq_true rfl) ?_
  simp (maxSteps := 400000) only [go_sem, simprocAttr]
  refine WF_pure (cGenSplit l c hl) rfl ?_
  simp (maxSteps := 400000) only [go_sem, simprocAttr]

/-! the reference's -/
def attach (p : List UInt8) : List (List UInt8) → List (List UInt8)
  | [] => [p]
  | a :: t => (p ++ a) :: t
theorem attach_nil (L : List (List UInt8)) (h : L ≠ []) : attach [] L = L := by cases L <;> simp_all [attach]
theorem splitL_ne (c : UInt8) (l : List UInt8) : splitL c l ≠ [] := fun h => by have := splitL_pos c l; rw [h] at this; simp at this
theorem attach_sep (c : UInt8) (p r : List UInt8) : attach p (splitL c (c :: r)) = p :: splitL c r := by simp [splitL, attach]
theorem attach_step {c x : UInt8} (hx : x ≠ c) (p r : List UInt8) : attach p (splitL c (x :: r)) = attach (p ++ [x]) (splitL c r) := by
  rw [splitL, if_neg hx]
  cases hs : splitL c r with
  | nil => exact absurd hs (splitL_ne c r)
  | cons a t => simp [attach]
theorem bs_get (l : List UInt8) (i : Nat) : (bs l)[i]? = l[i]? := by rw [bytes_at]; rfl
theorem cRefSplit (l : List UInt8) (c : UInt8) (hl : l.length < 1000000000) : PCall Tryz.prog 65 [.str (bs l), .int .u8 c.toNat] (strsPV (splitL c l)) := by
  refine pcall_of_wp_frz draws (fn := Tryz.f65) (n := 34) (rs := [.tmp 4]) (by kernel_rfl) rfl rfl rfl ok65 (Nat.le_of_ble_eq_true rfl) ?_
  simp (maxSteps := 400000) only [go_sem, simprocAttr]
  refine W_loop_nil 5 1 (by simp (maxSteps := 400000) only [go_sem, simprocAttr]) ?_
  simp (maxSteps := 400000) only [go_sem, simprocAttr]
  refine W_loopA [0, 1] (σ := List (List UInt8) × List UInt8 × List UInt8 × List UInt8 × Nat) (fun q => l = q.2.1 ++ q.2.2.1 ++ q.2.2.2.1 ∧ splitL c l = q.1 ++ attach q.2.2.1 (splitL c q.2.2.2.1) ∧ q.1.length ≤ q.2.1.length ∧ q.2.2.2.2 = q.2.1.length + q.2.2.1.length) (fun q => q.2.2.2.1.length)
    (fun q => [(5, .slice 0 q.1.length 0 q.1.length), (6, .p (.int .i64 q.2.1.length)), (7, .p (.int .i64 q.2.2.2.2))]) (fun q => [.row 1 (q.1.map fun x => .p (.str (bs x)))]) ([], [], [], l, 0)
    ⟨rfl, by rw [attach_nil _ (splitL_ne c l)]; rfl, Nat.le_refl _, rfl⟩ ?_ ?_
  · simp (maxSteps := 400000) only [go_sem, simprocAttr] <;> simp
  rintro ⟨outs, pre, cur, r, k⟩ ⟨e1, e2, e3, e4⟩
  dsimp only at e1 e2 e3 e4
  have hlen := congrArg List.length e1
  simp only [List.length_append] at hlen
  have hrm : outs.length + 1 ≤ room := by simp [room]; omega
  have hpc : (pre ++ cur).length = k := by rw [List.length_append, e4]
  cases r with
  | nil =>
    have hlt : decide (((k : Nat) : Int) < (((bs l).size : Nat) : Int)) = false := by rw [bs_size]; simp; simp at hlen; omega
    have h1 : ((pre.length : Nat) : Int) ≤ (((bs l).size : Nat) : Int) := by rw [bs_size]; omega
    have h2 : (bs l).extract pre.length (bs l).size = bs cur := by
      rw [bs_extract, bs_size, List.take_length, e1]
      simp
    have hrow : (outs.map fun x => AV.p (.str (bs x))) ++ [AV.p (.str (bs cur))] = (outs ++ [cur]).map fun x => AV.p (.str (bs x)) := by simp
    have hl2 : (outs ++ [cur]).length = outs.length + 1 := by simp
    have hs : splitL c l = outs ++ [cur] := by rw [e2]; simp [attach, splitL]
    simp (maxSteps := 400000) only [hlt, h1, h2, hrm, hrow, hl2, go_sem, simprocAttr]
    rw [hs, strsPV, List.take_of_length_le (by simp)]
  | cons x r =>
    simp only [List.length_cons] at hlen
    have hlt : decide (((k : Nat) : Int) < (((bs l).size : Nat) : Int)) = true := by rw [bs_size]; simp; omega
    have hx : (bs l)[k]? = some x := by
      rw [bs_get, e1, ← hpc]
      simp
    have hnx : IntKind.i64.wrap (((k : Nat) : Int) + 1) = ((k + 1 : Nat) : Int) := wrap_add (by omega) (by simp [room]; omega) (by simp)
    by_cases hc : x = c
    · subst hc
      have hb : (((x.toNat : Nat) : Int) == ((x.toNat : Nat) : Int)) = true := by simp
      have h1 : ((pre.length : Nat) : Int) ≤ ((k : Nat) : Int) := by omega
      have h2 : ((k : Nat) : Int) ≤ (((bs l).size : Nat) : Int) := by rw [bs_size]; omega
      have h3 : (bs l).extract pre.length k = bs cur := by
        rw [bs_extract, e1, ← hpc]
        congr 1
        rw [List.take_left' rfl]
        simp
      simp (maxSteps := 400000) only [hlt, hx, hb, h1, h2, h3, hrm, go_sem, simprocAttr]
      have hp : ((pre ++ cur ++ [x]).length : Nat) = k + 1 := by simp at hpc ⊢; omega
      refine WQ_headA (outs ++ [cur], pre ++ cur ++ [x], [], r, k + 1) ⟨by rw [e1]; simp, by rw [e2, attach_sep, attach_nil _ (splitL_ne x r)]; simp, by show (outs ++ [cur]).length ≤ (pre ++ cur ++ [x]).length; rw [hp]; simp; omega, by show k + 1 = (pre ++ cur ++ [x]).length + 0; rw [hp]⟩ (Nat.lt_succ_self _) ?_
      simp (maxSteps := 400000) only [hnx, hp, go_sem, simprocAttr]
      simp
    · have hb : (((x.toNat : Nat) : Int) == ((c.toNat : Nat) : Int)) = false := by
        have : x.toNat ≠ c.toNat := fun h => hc (UInt8.toNat_inj.1 h)
        simp; omega
      simp (maxSteps := 400000) only [hlt, hx, hb, go_sem, simprocAttr]
      refine WQ_headA (outs, pre, cur ++ [x], r, k + 1) ⟨by rw [e1]; simp, by rw [e2, attach_step hc], e3, by show k + 1 = pre.length + (cur ++ [x]).length; simp; omega⟩ (Nat.lt_succ_self _) ?_
      simp (maxSteps := 400000) only [hnx, go_sem, simprocAttr]

theorem decDigits_len (n : Nat) : (Lib.decDigits n).length ≤ n + 1 := by
  induction n using Nat.strongRecOn with
  | ind n ih =>
    rw [Lib.decDigits]
    split
    · simp
    · have := ih (n / 10) (by omega)
      simp; omega
theorem cDigits (n : Nat) : n < 1000000000 → PCall Tryz.prog 92 [.int .i64 n] (.str (bs (Lib.decDigits n))) := by
  induction n using Nat.strongRecOn with
  | ind n ih =>
    intro hn
    refine pcall_of_wp draws (fn := Tryz.f92) (n := 18) (rs := [.tmp 2]) (by kernel_rfl) rfl rfl rfl ok92 (Nat.le_of_ble_eq_true rfl) ?_
    have h1 : ((n : Nat) : Int).tmod 10 = ((n % 10 : Nat) : Int) := by rw [Int.tmod_eq_emod_of_nonneg (by omega)]; omega
    have h2 : IntKind.i64.wrap (48 + ((n % 10 : Nat) : Int)) = ((48 + n % 10 : Nat) : Int) := by rw [wrap_small (by omega) (by simp [room]; omega)]; simp
    have h3 : IntKind.u8.wrap ((48 + n % 10 : Nat) : Int) = ((48 + n % 10 : Nat) : Int) := by
      simp [IntKind.wrap, IntKind.signed, IntKind.bits]; omega
    have h5 : (⟨#[UInt8.ofNat (48 + n % 10)]⟩ : ByteArray) = bs [UInt8.ofNat (48 + n % 10)] := rfl
    have h6 : IntKind.i64.wrap (((n : Nat) : Int).tdiv 10) = ((n / 10 : Nat) : Int) := by rw [Int.tdiv_eq_ediv_of_nonneg (by omega), wrap_small (by omega) (by simp [room]; omega)]; omega
    by_cases hge : 10 ≤ n
    · have h4 : decide ((10 : Int) ≤ ((n : Nat) : Int)) = true := by simp; omega
      have h7 : (bs (Lib.decDigits (n / 10))).size + (bs [UInt8.ofNat (48 + n % 10)]).size ≤ strRoom := by
        have := decDigits_len (n / 10)
        rw [bs_size, bs_size, List.length_singleton]
        unfold strRoom; omega
      simp (maxSteps := 400000) only [h1, h2, h3, h4, h6, h5, go_sem, simprocAttr]
      refine WF_pure (ih (n / 10) (by omega) (by omega)) rfl ?_
      simp (maxSteps := 400000) only [h7, h5, bs_append, go_sem, simprocAttr]
      conv => rhs; rw [Lib.decDigits, dif_neg (by omega)]
    · have h4 : decide ((10 : Int) ≤ ((n : Nat) : Int)) = false := by simp; omega
      have h8 : n % 10 = n := by omega
      simp (maxSteps := 400000) only [h1, h2, h3, h4, h5, go_sem, simprocAttr]
      conv => rhs; rw [Lib.decDigits, dif_pos (by omega)]
      rw [h8]
end Abs
end Go.Proofs.YtdellinghbppgaaGreatDoor

namespace Go.Proofs.YtdellinghbppgaaGreatDoor
namespace Abs
set_option linter.unusedSimpArgs false
set_option maxRecDepth 4000

theorem hSplitSeq0 (l : List UInt8) (c : UInt8) (h : Heap) : HCall Tryz.prog 96 [.p (.str (bs l)), .p (.str (bs [c])), .p (.int .i64 0)] h
    (fun r h' => r = .ret (.func (.func 112) [] [.ptr (h.length + 1) 1 0 0, .ptr h.length 1 0 0, .ptr (h.length + 2) 1 0 0]) ∧
      h' = h ++ [.row 1 [.p (.str (bs l))], .row 1 [.p (.str (bs [c]))], .row 1 [.p (.int .i64 0)]]) := by
  refine hcall_of_wp draws (fn := Tryz.f96) (n := 8) (rs := [.tmp 6]) (by kernel_rfl) rfl rfl rfl ok96 (Nat.le_of_ble_eq_true rfl) ?_
  simp (maxSteps := 400000) only [List.append_assoc, List.length_append, List.length_singleton, go_sem, simprocAttr]
theorem hSplitSeq (l : List UInt8) (c : UInt8) (h : Heap) : HCall Tryz.prog 62 [.p (.str (bs l)), .p (.str (bs [c]))] h
    (fun r h' => r = .ret (.func (.func 112) [] [.ptr (h.length + 1) 1 0 0, .ptr h.length 1 0 0, .ptr (h.length + 2) 1 0 0]) ∧
      h' = h ++ [.row 1 [.p (.str (bs l))], .row 1 [.p (.str (bs [c]))], .row 1 [.p (.int .i64 0)]]) := by
  refine hcall_of_wp draws (fn := Tryz.f62) (n := 8) (rs := [.tmp 4]) (by kernel_rfl) rfl rfl rfl ok62 (Nat.le_of_ble_eq_true rfl) ?_
  simp (maxSteps := 400000) only [go_sem, simprocAttr]
  refine WF_ret (hSplitSeq0 l c h) ?_
  simp (maxSteps := 400000) only [go_sem, simprocAttr]
/-- its variables -/
def SeqRows (c : UInt8) (ns nsep nz : Nat) (x : List UInt8) (h : Heap) : Prop :=
  h[ns]? = some (.row 1 [.p (.str (bs x))]) ∧ h[nsep]? = some (.row 1 [.p (.str (bs [c]))]) ∧ h[nz]? = some (.row 1 [.p (.int .i64 0)])
set_option maxHeartbeats 1000000 in
theorem hSeqGo (l : List UInt8) (c : UInt8) (hl : l.length < 1000000000) (id ns nsep nz : Nat) (h0 : Heap) (Inv Inv' : List (List UInt8) → List UInt8 → Heap → Prop) (Pan : PV → Heap → Prop)
    (hrow : ∀ done x h, Inv done x h → SeqRows c ns nsep nz x h) (hrow' : ∀ done x h, Inv' done x h → SeqRows c ns nsep nz x h)
    (hy : ∀ done x h, splitL c l = done ++ splitL c x → Inv done x h → HYld Tryz.prog id [.p (.str (bs (cutL c x).1))] h (fun r h' => (r = .ret (.p (.bool true)) ∧ Inv' (done ++ [(cutL c x).1]) x h') ∨ ∃ v, r = .panic v ∧ Pan v h'))
    (hstep : ∀ done x y h, Inv' done x h → (cutL c x).2 = some y → Inv done y (h.set ns (.row 1 [.p (.str (bs y))]))) (hi : Inv [] l h0) :
    HCall Tryz.prog 112 [.ref .yl id, .ptr nsep 1 0 0, .ptr ns 1 0 0, .ptr nz 1 0 0] h0
      (fun r h' => (r = .ret (.p (.tuple [])) ∧ ∃ x, (cutL c x).2 = none ∧ Inv' (splitL c l) x h') ∨ ∃ v, r = .panic v ∧ Pan v h') := by
  refine hcall_of_wp draws (fn := Tryz.f112) (n := 52) (rs := []) (by kernel_rfl) rfl rfl rfl ok112 (Nat.le_of_ble_eq_true rfl) ?_
  obtain ⟨r1, r2, r3⟩ := hrow _ _ _ hi
  have hz : (((bs [c]).size : Int) == 0) = false := rfl
  simp (maxSteps := 400000) only [r1, r2, r3, hz, go_sem, simprocAttr]
  refine W_loopK [0, 1, 2, 3] (σ := List (List UInt8) × List UInt8 × Heap)
    (fun q => splitL c l = q.1 ++ splitL c q.2.1 ∧ Inv q.1 q.2.1 q.2.2 ∧ q.2.1.length < 1000000000) (fun q => q.2.1.length)
    (fun _ => []) (fun q => q.2.2) ([], l, h0) ⟨rfl, hi, hl⟩ rfl ?_ ?_
  · simp (maxSteps := 400000) only [go_sem, simprocAttr]
  clear r1 r2 r3
  rintro ⟨done, x, h⟩ ⟨e1, e2, e3⟩
  dsimp only at e1 e2 e3
  obtain ⟨r1, r2, r3⟩ := hrow _ _ _ e2
  have hyy := hy done x h e1 e2
  simp (maxSteps := 400000) only [r1, r2, r3, go_sem, simprocAttr]
  refine WF_pure (cIndex (bs x) c) rfl ?_
  rw [bs_data]
  rcases idx_cut c x with ⟨h1, h2, h3⟩ | ⟨r, h1, h2, h3⟩
  · simp (maxSteps := 400000) only [h3, r1, go_sem, simprocAttr]
    have hall : splitL c l = done ++ [x] := by rw [e1, splitL_none h1]
    rw [h2] at hyy
    refine WR_yld hyy (fun v h' hr => ?_) (fun v h' hr => ?_)
    · rcases hr with ⟨hr, hI⟩ | ⟨v', hr, _⟩
      · cases hr
        simp (maxSteps := 400000) only [go_sem, simprocAttr]
        refine .inl ?_
        rw [hall]
        exact ⟨x, h1, hI⟩
      · cases hr
    · rcases hr with ⟨hr, _⟩ | ⟨v', hr, hP⟩
      · cases hr
      · cases hr
        simp (maxSteps := 400000) only [go_sem, simprocAttr]
        exact ⟨_, rfl, hP⟩
  · have hlen3 := congrArg List.length h3
    simp only [List.length_append, List.length_cons] at hlen3
    have q1 : decide (((cutL c x).1.length : Int) < 0) = false := by simp
    have q2 : IntKind.i64.wrap (((cutL c x).1.length : Int) + 0) = (((cutL c x).1.length : Nat) : Int) := by rw [Int.add_zero]; exact wrap_in (by omega) (by omega)
    have q3 : (((cutL c x).1.length : Int) ≤ ((bs x).size : Int)) := by rw [bs_size]; omega
    have q4 : (bs x).extract 0 (cutL c x).1.length = bs (cutL c x).1 := by
      rw [bs_extract, List.drop_zero]
      congr 1
      have := congrArg (List.take (cutL c x).1.length) h3
      rw [List.take_left'] at this
      · exact this
      · rfl
    have q5 : IntKind.i64.wrap (((cutL c x).1.length : Int) + (((bs [c]).size : Nat) : Int)) = (((cutL c x).1.length + 1 : Nat) : Int) := by
      rw [bs_size]
      exact wrap_add (by omega) (by simp [room]; omega) (by simp)
    have q6 : ((((cutL c x).1.length + 1 : Nat) : Int) ≤ ((bs x).size : Int)) := by rw [bs_size]; omega
    have q7 : (bs x).extract ((cutL c x).1.length + 1) (bs x).size = bs r := by
      rw [bs_extract, bs_size, List.take_length]
      congr 1
      have := congrArg (List.drop ((cutL c x).1.length + 1)) h3
      rw [this]
      simp
    simp (maxSteps := 400000) only [h2, q1, r1, r2, r3, q2, q3, q4, go_sem, simprocAttr]
    refine WR_yld hyy (fun v h' hr => ?_) (fun v h' hr => ?_)
    rotate_left
    · rcases hr with ⟨hr, _⟩ | ⟨v', hr, hP⟩
      · cases hr
      · cases hr
        simp (maxSteps := 400000) only [go_sem, simprocAttr]
        exact ⟨_, rfl, hP⟩
    rcases hr with ⟨hr, hI⟩ | ⟨v', hr, _⟩
    rotate_left
    · cases hr
    cases hr
    obtain ⟨s1, s2, s3⟩ := hrow' _ _ _ hI
    simp (maxSteps := 400000) only [s1, s2, s3, q5, q6, q7, go_sem, simprocAttr]
    refine WQ_headK (done ++ [(cutL c x).1], r, h'.set ns (.row 1 [.p (.str (bs r))])) ⟨by rw [e1, splitL_some h1]; simp, hstep _ _ _ _ hI h1, by show r.length < 1000000000; omega⟩ (by show r.length < x.length; omega) rfl ?_
    simp (maxSteps := 400000) only [go_sem, simprocAttr]
end Abs
end Go.Proofs.YtdellinghbppgaaGreatDoor
