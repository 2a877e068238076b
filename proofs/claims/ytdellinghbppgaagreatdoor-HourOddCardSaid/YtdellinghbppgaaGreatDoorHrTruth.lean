/-
  CONTRACTS: what scales make of a truth; the law HourTruth. No conditions but those in the theorems' heads.
-/
import Derived.Test.YtdellinghbppgaaGreatDoorHrFact
namespace Go.Proofs.YtdellinghbppgaaGreatDoor
namespace Abs
set_option linter.unusedSimpArgs false
set_option linter.unusedVariables false
set_option maxRecDepth 100000

structure Burnt where
  kind : Int
  weight : Int
  rate : Int
  error : Int
  wrong : List Int
  apart : List Int
def u16PV (n : Int) : PV := .int .u16 n
def Burnt.pv (x : Burnt) : PV := .agg [.int .u8 x.kind, .int .u32 x.weight, .int .u32 x.rate, .int .u16 x.error, .slice 1 (x.wrong.map u16PV) false, .slice 1 (x.apart.map u16PV) false]
attribute [go_sem] u16PV Burnt.pv
structure BurntOk (x : Burnt) : Prop where
  kind : 0 ≤ x.kind ∧ x.kind ≤ 255
  weight : 0 ≤ x.weight ∧ x.weight ≤ 4294967295
  rate : 0 ≤ x.rate ∧ x.rate ≤ 4294967295
  error : 0 ≤ x.error ∧ x.error ≤ 65535
  wrong : ∀ n, n ∈ x.wrong → 0 ≤ n ∧ n ≤ 65535
  apart : ∀ n, n ∈ x.apart → 0 ≤ n ∧ n ≤ 65535

def scAt (i : Nat) (a p : Int) : Int := if 0 < i then a + 1 + p else a
def scLo (now e : Int) : Int := if now - 60 * e < 0 then 0 else (now - 60 * e + 59) / 60
def scHi (now e : Int) : Int := if (now + 60 * e) / 60 < 10000000 then (now + 60 * e) / 60 else 10000000
def scN (wrong : List Int) (i : Nat) : Int := if wrong = [] then 0 else wrong.getD (i % wrong.length) 0
def scaledGo (all rate e : Int) (wrong : List Int) : Nat → Int → List Int → List HrMark
  | _, _, [] => []
  | i, a, p :: r =>
    if 10 ≤ i then []
    else if all - rate * scAt i a p < 0 ∨ scHi (all - rate * scAt i a p) e < scLo (all - rate * scAt i a p) e then []
    else ⟨scAt i a p, amongS ⟨scLo (all - rate * scAt i a p) e, scHi (all - rate * scAt i a p) e⟩ (scN wrong i)⟩ :: scaledGo all rate e wrong (i + 1) (scAt i a p) r
def truAll (x : Burnt) : Int := 60 * (x.weight % 10000001)
def truRate (x : Burnt) : Int := x.rate % 600000000
def truErr (x : Burnt) : Int := x.error % 10001
def scaled (nk : Int) (x : Burnt) : HrTest := ⟨x.kind % nk, truErr x, scaledGo (truAll x) (truRate x) (truErr x) x.wrong 0 0 x.apart⟩
theorem scLo_facts {now e : Int} (hn : 0 ≤ now) (he : 0 ≤ e) : 0 ≤ scLo now e ∧ ∀ w, scLo now e ≤ w → now - 60 * e ≤ 60 * w := by
  unfold scLo
  split
  · exact ⟨by omega, fun w hw => by omega⟩
  · exact ⟨by omega, fun w hw => by omega⟩
theorem scHi_facts {now e : Int} : scHi now e ≤ 10000000 ∧ ∀ w, w ≤ scHi now e → 60 * w ≤ now + 60 * e := by
  unfold scHi
  split
  · exact ⟨by omega, fun w hw => by omega⟩
  · exact ⟨by omega, fun w hw => by omega⟩
/-- what the marks of a truth are -/
theorem scaledGo_ok {all rate e : Int} {wrong : List Int} (he : 0 ≤ e) : ∀ (l : List Int) (i : Nat) (a : Int), 0 ≤ a → (∀ n, n ∈ l → 0 ≤ n ∧ n ≤ 65535) → i ≤ 10 → a ≤ 65536 * i →
    (∀ m, m ∈ scaledGo all rate e wrong i a l → Weighs all rate e m ∧ 0 ≤ m.weight ∧ m.weight ≤ 10000000 ∧ m.minute ≤ 655360 ∧ a ≤ m.minute ∧ (0 < i → a < m.minute)) ∧
    ((scaledGo all rate e wrong i a l).Pairwise fun a b => a.minute < b.minute) ∧ (scaledGo all rate e wrong i a l).length + i ≤ 10
  | [], i, a, ha, _, hi, hb => by simp [scaledGo]; omega
  | p :: r, i, a, ha, hl, hi, hb => by
    rw [scaledGo]
    split
    · simp; omega
    · rename_i hi2
      split
      · simp; omega
      · rename_i hc
        have hp := hl p (by simp)
        have hA : 0 ≤ scAt i a p ∧ a ≤ scAt i a p ∧ (0 < i → a < scAt i a p) ∧ scAt i a p ≤ 65536 * ((i + 1 : Nat) : Int) := by
          unfold scAt; split <;> omega
        have ih := scaledGo_ok (all := all) (rate := rate) (wrong := wrong) he r (i + 1) (scAt i a p) hA.1 (fun n hn => hl n (by simp [hn])) (by omega) hA.2.2.2
        generalize scAt i a p = a' at hc hA ih ⊢
        have h1 := scLo_facts (now := all - rate * a') (e := e) (by omega) he
        have h2 := scHi_facts (now := all - rate * a') (e := e)
        have h3 := amongS_in (s := ⟨scLo (all - rate * a') e, scHi (all - rate * a') e⟩) (by dsimp only; omega) (scN wrong i)
        dsimp only at h3
        refine ⟨fun m hm => ?_, ?_, ?_⟩
        · rcases List.mem_cons.1 hm with rfl | hm
          · refine ⟨⟨h1.2 _ h3.1, h2.2 _ h3.2⟩, ?_⟩
            dsimp only
            omega
          · obtain ⟨k1, k2, k3, k4, k5, k6⟩ := ih.1 m hm
            exact ⟨k1, k2, k3, k4, by omega, fun h => by have := hA.2.2.1 h; omega⟩
        · rw [List.pairwise_cons]
          exact ⟨fun m hm => (ih.1 m hm).2.2.2.2.2 (by omega), ih.2.1⟩
        · have := ih.2.2
          simp; omega
theorem scaled_marks {nk : Int} {x : Burnt} (hx : BurntOk x) : (∀ m, m ∈ (scaled nk x).marks → Weighs (truAll x) (truRate x) (truErr x) m ∧ 0 ≤ m.weight ∧ m.weight ≤ 10000000 ∧ m.minute ≤ 655360 ∧ 0 ≤ m.minute) ∧
    ((scaled nk x).marks.Pairwise fun a b => a.minute < b.minute) ∧ (scaled nk x).marks.length ≤ 10 := by
  have h := scaledGo_ok (all := truAll x) (rate := truRate x) (wrong := x.wrong) (e := truErr x) (by unfold truErr; omega) x.apart 0 0 (Int.le_refl _) hx.apart (by omega) (by omega)
  exact ⟨fun m hm => by obtain ⟨a, b, c, d, e, _⟩ := h.1 m hm; exact ⟨a, b, c, d, e⟩, h.2.1, by have := h.2.2; simpa [scaled] using this⟩
theorem scaled_ok {nk : Int} {x : Burnt} (hx : BurntOk x) (h2 : 2 ≤ (scaled nk x).marks.length) : TestOk (scaled nk x) := by
  obtain ⟨h1, h3, h4⟩ := scaled_marks (nk := nk) hx
  have he : 0 ≤ truErr x ∧ truErr x ≤ 10000 := by unfold truErr; omega
  exact ⟨⟨h4, fun m hm => by have := h1 m hm; omega, he⟩, h2, h3⟩
theorem scaled_kind {nk : Int} {x : Burnt} (hn : 0 < nk) : 0 ≤ (scaled nk x).kind ∧ (scaled nk x).kind < nk :=
  ⟨Int.emod_nonneg _ (by omega), Int.emod_lt_of_pos _ hn⟩
def sRow (k e : Int) (acc : List HrMark) : Heap := if acc = [] then [.row 3 [.p (.agg [.int .i64 k, .int .i64 e, .nilslice])]] else [.row 3 [.agg [.p (.int .i64 k), .p (.int .i64 e), .slice 4 acc.length 0 acc.length]], .row 2 (acc.map markC)]
theorem sRow_one (k e : Int) (m : HrMark) : sRow k e [m] = [.row 3 [.agg [.p (.int .i64 k), .p (.int .i64 e), .slice 4 1 0 1]], .row 2 [.p m.pv]] := rfl
theorem sRow_app (k e : Int) (acc : List HrMark) (m : HrMark) : sRow k e (acc ++ [m]) = [.row 3 [.agg [.p (.int .i64 k), .p (.int .i64 e), .slice 4 (acc.length + 1) 0 (acc.length + 1)]], .row 2 (acc.map markC ++ [.p m.pv])] := by
  rw [sRow, if_neg (by simp)]; simp [markC]
theorem readPV_nil (k e : Int) : readPV ⟨k, e, []⟩ = .agg [.int .i64 k, .int .i64 e, .nilslice] := rfl
theorem readPV_ne (k e : Int) {ms : List HrMark} (h : ¬ ms = []) : readPV ⟨k, e, ms⟩ = .agg [.int .i64 k, .int .i64 e, .slice 2 (ms.map HrMark.pv) false] := by
  cases ms with
  | nil => exact absurd rfl h
  | cons m ms => rfl
/-- what a round does: it ends, or it makes a mark -/
theorem scaled_round {all rate e : Int} {wrong : List Int} {i : Nat} {a p : Int} {r : List Int} (hi : i < 10) (he : 0 ≤ e ∧ e ≤ 10000) (hn : -1000000000000000 ≤ all - rate * scAt i a p ∧ all - rate * scAt i a p ≤ 1000000000000000) :
    (decide (all - rate * scAt i a p < 0) = true ∧ decide (all - rate * scAt i a p - 60 * e < 0) = true ∧ scaledGo all rate e wrong i a (p :: r) = []) ∨
    (decide (all - rate * scAt i a p < 0) = false ∧ decide (all - rate * scAt i a p - 60 * e < 0) = true ∧ (∃ q, IntKind.i64.wrap ((all - rate * scAt i a p + 60 * e).tdiv 60) = q ∧ (if q < 10000000 then q else 10000000) = scHi (all - rate * scAt i a p) e) ∧
      decide (scHi (all - rate * scAt i a p) e < 0) = true ∧ scaledGo all rate e wrong i a (p :: r) = []) ∨
    (decide (all - rate * scAt i a p < 0) = false ∧ decide (all - rate * scAt i a p - 60 * e < 0) = false ∧ (∃ q, IntKind.i64.wrap ((all - rate * scAt i a p + 60 * e).tdiv 60) = q ∧ (if q < 10000000 then q else 10000000) = scHi (all - rate * scAt i a p) e) ∧
      decide (scHi (all - rate * scAt i a p) e < scLo (all - rate * scAt i a p) e) = true ∧ scaledGo all rate e wrong i a (p :: r) = [] ∧ IntKind.i64.wrap ((all - rate * scAt i a p - 60 * e + 59).tdiv 60) = scLo (all - rate * scAt i a p) e ∧ (if 0 < scLo (all - rate * scAt i a p) e then scLo (all - rate * scAt i a p) e else 0) = scLo (all - rate * scAt i a p) e) ∨
    (decide (all - rate * scAt i a p < 0) = false ∧ decide (all - rate * scAt i a p - 60 * e < 0) = true ∧ (∃ q, IntKind.i64.wrap ((all - rate * scAt i a p + 60 * e).tdiv 60) = q ∧ (if q < 10000000 then q else 10000000) = scHi (all - rate * scAt i a p) e) ∧
      decide (scHi (all - rate * scAt i a p) e < 0) = false ∧ scLo (all - rate * scAt i a p) e = 0) ∨
    (decide (all - rate * scAt i a p < 0) = false ∧ decide (all - rate * scAt i a p - 60 * e < 0) = false ∧ (∃ q, IntKind.i64.wrap ((all - rate * scAt i a p + 60 * e).tdiv 60) = q ∧ (if q < 10000000 then q else 10000000) = scHi (all - rate * scAt i a p) e) ∧
      decide (scHi (all - rate * scAt i a p) e < scLo (all - rate * scAt i a p) e) = false ∧ IntKind.i64.wrap ((all - rate * scAt i a p - 60 * e + 59).tdiv 60) = scLo (all - rate * scAt i a p) e ∧ (if 0 < scLo (all - rate * scAt i a p) e then scLo (all - rate * scAt i a p) e else 0) = scLo (all - rate * scAt i a p) e) := by
  rw [scaledGo, if_neg (by omega)]
  generalize all - rate * scAt i a p = now at hn ⊢
  have q2 : ¬ now < 0 → ∃ q, IntKind.i64.wrap ((now + 60 * e).tdiv 60) = q ∧ (if q < 10000000 then q else 10000000) = scHi now e := fun h =>
    ⟨(now + 60 * e) / 60, by rw [Int.tdiv_eq_ediv_of_nonneg (by omega)]; exact wrap_in (by omega) (by omega), rfl⟩
  by_cases c1 : now < 0
  · exact .inl ⟨by simpa using c1, by simp; omega, by rw [if_pos (.inl c1)]⟩
  refine .inr ?_
  by_cases c2 : now - 60 * e < 0
  · have hl : scLo now e = 0 := by rw [scLo, if_pos c2]
    by_cases c3 : scHi now e < 0
    · exact .inl ⟨by simpa using c1, by simpa using c2, q2 c1, by simpa using c3, by rw [if_pos (.inr (by omega))]⟩
    · exact .inr (.inr (.inl ⟨by simpa using c1, by simpa using c2, q2 c1, by simpa using c3, hl⟩))
  · have hl : IntKind.i64.wrap ((now - 60 * e + 59).tdiv 60) = scLo now e := by
      rw [scLo, if_neg c2, Int.tdiv_eq_ediv_of_nonneg (by omega)]; exact wrap_in (by omega) (by omega)
    have hl2 : (if 0 < scLo now e then scLo now e else 0) = scLo now e := by have := (scLo_facts (now := now) (e := e) (by omega) he.1).1; split <;> omega
    by_cases c3 : scHi now e < scLo now e
    · exact .inr (.inl ⟨by simpa using c1, by simpa using c2, q2 c1, by simpa using c3, by rw [if_pos (.inr c3)], hl, hl2⟩)
    · exact .inr (.inr (.inr ⟨by simpa using c1, by simpa using c2, q2 c1, by simpa using c3, hl, hl2⟩))
theorem scaled_turn {wrong : List Int} (i : Nat) : ((wrong.length : Int) = 0 ∧ scN wrong i = 0) ∨ (¬ (wrong.length : Int) = 0 ∧ (0 < (wrong.length : Int)) ∧ (i : Int).tmod (wrong.length : Int) = ((i % wrong.length : Nat) : Int) ∧ ((i % wrong.length : Nat) : Int) < (wrong.length : Int) ∧ wrong[i % wrong.length]? = some (scN wrong i)) := by
  by_cases h : wrong = []
  · exact .inl ⟨by rw [h]; rfl, by rw [scN, if_pos h]⟩
  · have hp0 : 0 < wrong.length := List.length_pos_iff.2 h
    have hlt0 := Nat.mod_lt i hp0
    refine .inr ⟨by omega, by omega, ?_, by omega, ?_⟩
    · rw [Int.tmod_eq_emod_of_nonneg (by omega)]; omega
    · rw [scN, if_neg h, List.getD_eq_getElem?_getD, List.getElem?_eq_getElem hlt0]; rfl
set_option maxHeartbeats 4000000 in
theorem cScaled0 (s : HrShop) (x : Burnt) (hs : 1 ≤ s.kinds.length) (hs2 : s.kinds.length ≤ 6) (hx : BurntOk x) : PCall Tryz.prog 33 [s.pv, x.pv] (readPV (scaled s.kinds.length x)) := by
  have hxk := hx.kind
  have hxw := hx.weight
  have hxr := hx.rate
  have hxe := hx.error
  have hfin : readPV (scaled s.kinds.length x) = readPV ⟨x.kind % (s.kinds.length : Int), truErr x, (scaled s.kinds.length x).marks⟩ := rfl
  rw [hfin]
  refine pcall_of_wp_frz draws (fn := Tryz.f33) (n := 117) (rs := [.cell 4 33]) (by kernel_rfl) rfl rfl rfl ok33 (Nat.le_of_ble_eq_true rfl) ?_
  have w1 : IntKind.i64.wrap x.kind = x.kind := wrap_in (by omega) (by omega)
  have w2 : IntKind.i64.wrap x.weight = x.weight := wrap_in (by omega) (by omega)
  have w3 : IntKind.i64.wrap x.rate = x.rate := wrap_in (by omega) (by omega)
  have w4 : IntKind.i64.wrap x.error = x.error := wrap_in (by omega) (by omega)
  have hne : ¬ (s.kinds.length : Int) = 0 := by omega
  have m1 : x.kind.tmod (s.kinds.length : Int) = x.kind % (s.kinds.length : Int) := Int.tmod_eq_emod_of_nonneg hxk.1
  have m2 : x.weight.tmod 10000001 = x.weight % 10000001 := Int.tmod_eq_emod_of_nonneg hxw.1
  have m3 : x.rate.tmod 600000000 = truRate x := Int.tmod_eq_emod_of_nonneg hxr.1
  have m4 : x.error.tmod 10001 = truErr x := Int.tmod_eq_emod_of_nonneg hxe.1
  have w5 : IntKind.i64.wrap (60 * (x.weight % 10000001)) = truAll x := by rw [wrap_in (by omega) (by omega)]; rfl
  have w6 : IntKind.i64.wrap (x.kind % (s.kinds.length : Int)) = x.kind % (s.kinds.length : Int) := by
    have h0 := Int.emod_nonneg x.kind hne
    have h1 := Int.emod_lt_of_pos x.kind (show 0 < (s.kinds.length : Int) by omega)
    exact wrap_in (by omega) (by omega)
  have w7 : IntKind.i64.wrap (x.weight % 10000001) = x.weight % 10000001 := wrap_in (by omega) (by omega)
  have w8 : IntKind.i64.wrap (truRate x) = truRate x := by unfold truRate; exact wrap_in (by omega) (by omega)
  have w9 : IntKind.i64.wrap (truErr x) = truErr x := by unfold truErr; exact wrap_in (by omega) (by omega)
  simp (maxSteps := 400000) only [w1, w2, w3, w4, hne, m1, m2, m3, m4, w5, w6, w7, w8, w9, go_sem, simprocAttr]
  have hR := scaled_marks (nk := s.kinds.length) hx
  have hAll : 0 ≤ truAll x ∧ truAll x ≤ 600000000 := by unfold truAll; omega
  have hRate : 0 ≤ truRate x ∧ truRate x ≤ 599999999 := by unfold truRate; omega
  have hErr : 0 ≤ truErr x ∧ truErr x ≤ 10000 := by unfold truErr; omega
  have hsp : (scaled s.kinds.length x).marks = scaledGo (truAll x) (truRate x) (truErr x) x.wrong 0 0 x.apart := rfl
  generalize hK : x.kind % (s.kinds.length : Int) = K
  refine W_loopA [3, 4, 5, 7, 8] (σ := List Int × List Int × List HrMark × Int) (fun q => x.apart = q.1 ++ q.2.1 ∧ q.2.2.1.length = q.1.length ∧ (scaled s.kinds.length x).marks = q.2.2.1 ++ scaledGo (truAll x) (truRate x) (truErr x) x.wrong q.1.length q.2.2.2 q.2.1 ∧ 0 ≤ q.2.2.2 ∧ q.2.2.2 ≤ 65536 * q.1.length) (fun q => q.2.1.length)
    (fun q => [(6, .p (.int .i64 q.2.2.2)), (9, .p (.int .i64 q.1.length))]) (fun q => [.row 3 [.p s.pv], .row 6 [.p x.pv], .row 3 [.p (.agg [.int .i64 0, .int .i64 0, .nilslice])]] ++ sRow K (truErr x) q.2.2.1) ([], x.apart, [], 0) ⟨rfl, rfl, hsp, Int.le_refl _, by simp⟩ ?_ ?_
  · simp (maxSteps := 400000) only [sRow, if_pos, go_sem, simprocAttr]
  have hfz : ∀ n h (ms : List HrMark), frzList (frzN n h) (ms.map markC) = some (ms.map HrMark.pv) := fun n h ms => frzList_map (frzN_p n h) HrMark.pv ms
  rintro ⟨done, rest, acc, at'⟩ ⟨e1, e2, e3, e4, e5⟩
  dsimp only at e1 e2 e3 e4 e5
  have hacl : acc.length ≤ 10 := by have := hR.2.2; rw [e3, List.length_append] at this; omega
  have hs : (done = [] ∧ acc = []) ∨ (¬ done = [] ∧ ¬ acc = []) := by
    cases done with
    | nil => exact .inl ⟨rfl, List.length_eq_zero_iff.1 e2⟩
    | cons d ds => exact .inr ⟨by simp, fun h => by rw [h] at e2; simp at e2⟩
  cases rest with
  | nil =>
    have hlt : ¬ ((done.length : Int) < (x.apart.length : Int)) := by rw [e1]; simp
    rw [scaledGo, List.append_nil] at e3
    rcases hs with ⟨rfl, rfl⟩ | ⟨hd, hac⟩
    · rw [sRow, if_pos rfl]
      simp only [List.length_nil, Int.cast_ofNat_Int] at hlt
      simp (maxSteps := 400000) only [hlt, decide_false, e3, readPV_nil, go_sem, simprocAttr]
    · rw [sRow, if_neg hac]
      simp (maxSteps := 400000) only [hlt, decide_false, e3, hfz, take_map_len, readPV_ne _ _ hac, go_sem, simprocAttr]
  | cons p r =>
    obtain ⟨hp, hlt⟩ := list_at e1
    have hap := hx.apart p (by rw [e1]; simp)
    by_cases h10 : done.length < 10
    rotate_left
    · have hd10 : decide ((done.length : Int) < 10) = false := by simp; omega
      rw [scaledGo, if_pos (by omega), List.append_nil] at e3
      rcases hs with ⟨rfl, rfl⟩ | ⟨hd, hac⟩
      · exact absurd (by decide) h10
      · rw [sRow, if_neg hac]
        simp (maxSteps := 400000) only [hlt, decide_true, hd10, e3, hfz, take_map_len, readPV_ne _ _ hac, go_sem, simprocAttr]
    have hd10 : decide ((done.length : Int) < 10) = true := by simp; omega
    have hA : 0 ≤ scAt done.length at' p ∧ scAt done.length at' p ≤ 65536 * ((done.length + 1 : Nat) : Int) := by
      unfold scAt; split <;> omega
    have hmul := Int.mul_le_mul hRate.2 (show scAt done.length at' p ≤ 655360 by omega) hA.1 (by omega)
    have hmul0 := Int.mul_nonneg hRate.1 hA.1
    have hround := scaled_round (all := truAll x) (rate := truRate x) (e := truErr x) (wrong := x.wrong) (i := done.length) (a := at') (p := p) (r := r) h10 hErr (by omega)
    have hcont : ¬ (truAll x - truRate x * scAt done.length at' p < 0 ∨ scHi (truAll x - truRate x * scAt done.length at' p) (truErr x) < scLo (truAll x - truRate x * scAt done.length at' p) (truErr x)) → scaledGo (truAll x) (truRate x) (truErr x) x.wrong done.length at' (p :: r) = ⟨scAt done.length at' p, amongS ⟨scLo (truAll x - truRate x * scAt done.length at' p) (truErr x), scHi (truAll x - truRate x * scAt done.length at' p) (truErr x)⟩ (scN x.wrong done.length)⟩ :: scaledGo (truAll x) (truRate x) (truErr x) x.wrong (done.length + 1) (scAt done.length at' p) r := by
      intro h; rw [scaledGo, if_neg (by omega), if_neg h]
    have hturn := scaled_turn (wrong := x.wrong) done.length
    have hN : 0 ≤ scN x.wrong done.length ∧ scN x.wrong done.length ≤ 65535 := by
      rcases hturn with ⟨_, h⟩ | ⟨_, _, _, _, h⟩
      · omega
      · exact hx.wrong _ (List.mem_of_getElem? h)
    have hsc : (done = [] → scAt done.length at' p = at') ∧ (¬ done = [] → scAt done.length at' p = at' + 1 + p) := by
      unfold scAt
      constructor
      · intro h; rw [h]; rfl
      · intro h; rw [if_pos (List.length_pos_iff.2 h)]
    have fL := fun h => scLo_facts (now := truAll x - truRate x * scAt done.length at' p) (e := truErr x) h hErr.1
    have fH := (scHi_facts (now := truAll x - truRate x * scAt done.length at' p) (e := truErr x)).1
    have hw0 : IntKind.i64.wrap (truRate x * scAt done.length at' p) = truRate x * scAt done.length at' p := wrap_in (by omega) (by omega)
    have hw1 : IntKind.i64.wrap (truAll x - truRate x * scAt done.length at' p) = truAll x - truRate x * scAt done.length at' p := wrap_in (by omega) (by omega)
    have hwp : IntKind.i64.wrap p = p := wrap_in (by omega) (by omega)
    have hwa : IntKind.i64.wrap (at' + 1) = at' + 1 := wrap_in (by omega) (by omega)
    have hwb : IntKind.i64.wrap (at' + 1 + p) = at' + 1 + p := wrap_in (by omega) (by omega)
    generalize hAA : scAt done.length at' p = A at hA hmul hmul0 hround hcont hsc fL fH hw0 hw1
    generalize hnow : truAll x - truRate x * A = now at hround hcont fL fH hw1
    have v1 : IntKind.i64.wrap (60 * truErr x) = 60 * truErr x := wrap_in (by omega) (by omega)
    have v2 : IntKind.i64.wrap (now - 60 * truErr x) = now - 60 * truErr x := wrap_in (by omega) (by omega)
    have v3 : IntKind.i64.wrap (now - 60 * truErr x + 59) = now - 60 * truErr x + 59 := wrap_in (by omega) (by omega)
    have v4 : IntKind.i64.wrap (now + 60 * truErr x) = now + 60 * truErr x := wrap_in (by omega) (by omega)
    have v6 : IntKind.i64.wrap (scN x.wrong done.length) = scN x.wrong done.length := wrap_in (by omega) (by omega)
    have hnx : IntKind.i64.wrap ((done.length : Int) + 1) = (((done ++ [p]).length : Nat) : Int) := wrap_add (by omega) (by simp [room]; omega) (by simp)
    have hdn : (done ++ [p]).length = done.length + 1 := by simp
    have hrm : acc.length + 1 ≤ room := by simp [room]; omega
    have hpos : ¬ done = [] → decide ((0 : Int) < (done.length : Int)) = true := fun h => by have := List.length_pos_iff.2 h; simp; omega
    have hlt' : decide ((done.length : Int) < (x.apart.length : Int)) = true := by simpa using hlt
    rcases hs with ⟨rfl, rfl⟩ | ⟨hd, hac⟩
    · rw [sRow, if_pos rfl]
      have hat := hsc.1 rfl
      subst hat
      simp only [List.length_nil, Int.cast_ofNat_Int, List.nil_append] at hlt' hp hlt hd10 hturn hN v6 hnx hdn hrm hcont e3 hround
      rcases hround with hr | hr | hr | hr | hr
      · rw [hr.2.2] at e3
        simp (maxSteps := 400000) only [hlt', hd10, hp, hlt, hw0, hnow, hw1, v1, v2, v3, v4, hr, e3, readPV_nil, go_sem, simprocAttr]
      · obtain ⟨r1, r2, ⟨q, r3, r4⟩, r5, r6⟩ := hr
        rw [r6] at e3
        simp (maxSteps := 400000) only [hlt', hd10, hp, hlt, hw0, hnow, hw1, v1, v2, v3, v4, r1, r2, r3, r4, r5, e3, readPV_nil, go_sem, simprocAttr]
      · obtain ⟨r1, r2, ⟨q, r3, r4⟩, r5, r6, r7, r8⟩ := hr
        rw [r6] at e3
        simp (maxSteps := 400000) only [hlt', hd10, hp, hlt, hw0, hnow, hw1, v1, v2, v3, v4, r1, r2, r3, r4, r5, r7, r8, e3, readPV_nil, go_sem, simprocAttr]
      · obtain ⟨r1, r2, ⟨q, r3, r4⟩, r5, r6⟩ := hr
        rw [hcont (by simp at r1 r5; omega)] at e3
        have hL := fL (by simpa using r1)
        have hHL : scLo now (truErr x) ≤ scHi now (truErr x) := by simp at r1 r5; omega
        rw [r6] at e3 hL hHL
        simp (maxSteps := 400000) only [hlt', hd10, hp, hlt, hw0, hnow, hw1, v1, v2, v3, v4, r1, r2, r3, r4, r5, go_sem, simprocAttr]
        rcases hturn with ⟨t1, t2⟩ | ⟨t1, t2, t3, t4, t5⟩
        · rw [t2] at e3
          simp (maxSteps := 400000) only [t1, t2, go_sem, simprocAttr]
          (first | refine WF_pure (cAmong09 ⟨0, scHi now (truErr x)⟩ 0 (by dsimp only; omega) (by omega)) rfl ?_ | refine WDQ_pure (cAmong09 ⟨0, scHi now (truErr x)⟩ 0 (by dsimp only; omega) (by omega)) rfl ?_)
          simp (maxSteps := 400000) only [hrm, go_sem, simprocAttr]
          refine WQ_headA ([p], r, [⟨A, amongS ⟨0, scHi now (truErr x)⟩ 0⟩], A) ⟨by rw [e1]; simp, by simp, by rw [e3]; simp, hA.1, by simp at hA ⊢; omega⟩ (Nat.lt_succ_self _) ?_
          rw [sRow_one]
          simp (maxSteps := 400000) only [hnx, List.map_append, List.length_append, List.length_singleton, go_sem, simprocAttr]
        · have hN0 := hN.1
          simp (maxSteps := 400000) only [t1, t2, t3, t4, t5, v6, decide_true, go_sem, simprocAttr]
          (first | refine WF_pure (cAmong09 ⟨0, scHi now (truErr x)⟩ (scN x.wrong 0) (by dsimp only; omega) (by omega)) rfl ?_ | refine WDQ_pure (cAmong09 ⟨0, scHi now (truErr x)⟩ (scN x.wrong 0) (by dsimp only; omega) (by omega)) rfl ?_)
          simp (maxSteps := 400000) only [hrm, go_sem, simprocAttr]
          refine WQ_headA ([p], r, [⟨A, amongS ⟨0, scHi now (truErr x)⟩ (scN x.wrong 0)⟩], A) ⟨by rw [e1]; simp, by simp, by rw [e3]; simp, hA.1, by simp at hA ⊢; omega⟩ (Nat.lt_succ_self _) ?_
          rw [sRow_one]
          simp (maxSteps := 400000) only [hnx, List.map_append, List.length_append, List.length_singleton, go_sem, simprocAttr]
      · obtain ⟨r1, r2, ⟨q, r3, r4⟩, r5, r7, r8⟩ := hr
        rw [hcont (by simp at r1 r5; omega)] at e3
        have hL := fL (by simpa using r1)
        have hHL : scLo now (truErr x) ≤ scHi now (truErr x) := by simp at r1 r5; omega
        simp (maxSteps := 400000) only [hlt', hd10, hp, hlt, hw0, hnow, hw1, v1, v2, v3, v4, r1, r2, r3, r4, r5, r7, r8, go_sem, simprocAttr]
        rcases hturn with ⟨t1, t2⟩ | ⟨t1, t2, t3, t4, t5⟩
        · rw [t2] at e3
          simp (maxSteps := 400000) only [t1, t2, go_sem, simprocAttr]
          (first | refine WF_pure (cAmong09 ⟨scLo now (truErr x), scHi now (truErr x)⟩ 0 (by dsimp only; omega) (by omega)) rfl ?_ | refine WDQ_pure (cAmong09 ⟨scLo now (truErr x), scHi now (truErr x)⟩ 0 (by dsimp only; omega) (by omega)) rfl ?_)
          simp (maxSteps := 400000) only [hrm, go_sem, simprocAttr]
          refine WQ_headA ([p], r, [⟨A, amongS ⟨scLo now (truErr x), scHi now (truErr x)⟩ 0⟩], A) ⟨by rw [e1]; simp, by simp, by rw [e3]; simp, hA.1, by simp at hA ⊢; omega⟩ (Nat.lt_succ_self _) ?_
          rw [sRow_one]
          simp (maxSteps := 400000) only [hnx, List.map_append, List.length_append, List.length_singleton, go_sem, simprocAttr]
        · have hN0 := hN.1
          simp (maxSteps := 400000) only [t1, t2, t3, t4, t5, v6, decide_true, go_sem, simprocAttr]
          (first | refine WF_pure (cAmong09 ⟨scLo now (truErr x), scHi now (truErr x)⟩ (scN x.wrong 0) (by dsimp only; omega) (by omega)) rfl ?_ | refine WDQ_pure (cAmong09 ⟨scLo now (truErr x), scHi now (truErr x)⟩ (scN x.wrong 0) (by dsimp only; omega) (by omega)) rfl ?_)
          simp (maxSteps := 400000) only [hrm, go_sem, simprocAttr]
          refine WQ_headA ([p], r, [⟨A, amongS ⟨scLo now (truErr x), scHi now (truErr x)⟩ (scN x.wrong 0)⟩], A) ⟨by rw [e1]; simp, by simp, by rw [e3]; simp, hA.1, by simp at hA ⊢; omega⟩ (Nat.lt_succ_self _) ?_
          rw [sRow_one]
          simp (maxSteps := 400000) only [hnx, List.map_append, List.length_append, List.length_singleton, go_sem, simprocAttr]
    · rw [sRow, if_neg hac]
      have hat := hsc.2 hd
      subst hat
      rcases hround with hr | hr | hr | hr | hr
      · rw [hr.2.2, List.append_nil] at e3
        simp (maxSteps := 400000) only [hlt', hd10, hp, hlt, hw0, hnow, hw1, v1, v2, v3, v4, hpos hd, hwp, hwa, hwb, hr, e3, hfz, take_map_len, readPV_ne _ _ hac, go_sem, simprocAttr]
      · obtain ⟨r1, r2, ⟨q, r3, r4⟩, r5, r6⟩ := hr
        rw [r6, List.append_nil] at e3
        simp (maxSteps := 400000) only [hlt', hd10, hp, hlt, hw0, hnow, hw1, v1, v2, v3, v4, hpos hd, hwp, hwa, hwb, r1, r2, r3, r4, r5, e3, hfz, take_map_len, readPV_ne _ _ hac, go_sem, simprocAttr]
      · obtain ⟨r1, r2, ⟨q, r3, r4⟩, r5, r6, r7, r8⟩ := hr
        rw [r6, List.append_nil] at e3
        simp (maxSteps := 400000) only [hlt', hd10, hp, hlt, hw0, hnow, hw1, v1, v2, v3, v4, hpos hd, hwp, hwa, hwb, r1, r2, r3, r4, r5, r7, r8, e3, hfz, take_map_len, readPV_ne _ _ hac, go_sem, simprocAttr]
      · obtain ⟨r1, r2, ⟨q, r3, r4⟩, r5, r6⟩ := hr
        rw [hcont (by simp at r1 r5; omega)] at e3
        have hL := fL (by simpa using r1)
        have hHL : scLo now (truErr x) ≤ scHi now (truErr x) := by simp at r1 r5; omega
        rw [r6] at e3 hL hHL
        simp (maxSteps := 400000) only [hlt', hd10, hp, hlt, hw0, hnow, hw1, v1, v2, v3, v4, hpos hd, hwp, hwa, hwb, r1, r2, r3, r4, r5, go_sem, simprocAttr]
        rcases hturn with ⟨t1, t2⟩ | ⟨t1, t2, t3, t4, t5⟩
        · rw [t2] at e3
          simp (maxSteps := 400000) only [t1, t2, go_sem, simprocAttr]
          (first | refine WF_pure (cAmong09 ⟨0, scHi now (truErr x)⟩ 0 (by dsimp only; omega) (by omega)) rfl ?_ | refine WDQ_pure (cAmong09 ⟨0, scHi now (truErr x)⟩ 0 (by dsimp only; omega) (by omega)) rfl ?_)
          simp (maxSteps := 400000) only [hrm, go_sem, simprocAttr]
          refine WQ_headA (done ++ [p], r, acc ++ [⟨at' + 1 + p, amongS ⟨0, scHi now (truErr x)⟩ 0⟩], at' + 1 + p) ⟨by rw [e1]; simp, by simp; omega, by rw [e3]; simp, hA.1, by simp at hA ⊢; omega⟩ (Nat.lt_succ_self _) ?_
          rw [sRow_app]
          simp (maxSteps := 400000) only [hnx, List.map_append, List.length_append, List.length_singleton, go_sem, simprocAttr]
        · have hN0 := hN.1
          simp (maxSteps := 400000) only [t1, t2, t3, t4, t5, v6, decide_true, go_sem, simprocAttr]
          (first | refine WF_pure (cAmong09 ⟨0, scHi now (truErr x)⟩ (scN x.wrong done.length) (by dsimp only; omega) (by omega)) rfl ?_ | refine WDQ_pure (cAmong09 ⟨0, scHi now (truErr x)⟩ (scN x.wrong done.length) (by dsimp only; omega) (by omega)) rfl ?_)
          simp (maxSteps := 400000) only [hrm, go_sem, simprocAttr]
          refine WQ_headA (done ++ [p], r, acc ++ [⟨at' + 1 + p, amongS ⟨0, scHi now (truErr x)⟩ (scN x.wrong done.length)⟩], at' + 1 + p) ⟨by rw [e1]; simp, by simp; omega, by rw [e3]; simp, hA.1, by simp at hA ⊢; omega⟩ (Nat.lt_succ_self _) ?_
          rw [sRow_app]
          simp (maxSteps := 400000) only [hnx, List.map_append, List.length_append, List.length_singleton, go_sem, simprocAttr]
      · obtain ⟨r1, r2, ⟨q, r3, r4⟩, r5, r7, r8⟩ := hr
        rw [hcont (by simp at r1 r5; omega)] at e3
        have hL := fL (by simpa using r1)
        have hHL : scLo now (truErr x) ≤ scHi now (truErr x) := by simp at r1 r5; omega
        simp (maxSteps := 400000) only [hlt', hd10, hp, hlt, hw0, hnow, hw1, v1, v2, v3, v4, hpos hd, hwp, hwa, hwb, r1, r2, r3, r4, r5, r7, r8, go_sem, simprocAttr]
        rcases hturn with ⟨t1, t2⟩ | ⟨t1, t2, t3, t4, t5⟩
        · rw [t2] at e3
          simp (maxSteps := 400000) only [t1, t2, go_sem, simprocAttr]
          (first | refine WF_pure (cAmong09 ⟨scLo now (truErr x), scHi now (truErr x)⟩ 0 (by dsimp only; omega) (by omega)) rfl ?_ | refine WDQ_pure (cAmong09 ⟨scLo now (truErr x), scHi now (truErr x)⟩ 0 (by dsimp only; omega) (by omega)) rfl ?_)
          simp (maxSteps := 400000) only [hrm, go_sem, simprocAttr]
          refine WQ_headA (done ++ [p], r, acc ++ [⟨at' + 1 + p, amongS ⟨scLo now (truErr x), scHi now (truErr x)⟩ 0⟩], at' + 1 + p) ⟨by rw [e1]; simp, by simp; omega, by rw [e3]; simp, hA.1, by simp at hA ⊢; omega⟩ (Nat.lt_succ_self _) ?_
          rw [sRow_app]
          simp (maxSteps := 400000) only [hnx, List.map_append, List.length_append, List.length_singleton, go_sem, simprocAttr]
        · have hN0 := hN.1
          simp (maxSteps := 400000) only [t1, t2, t3, t4, t5, v6, decide_true, go_sem, simprocAttr]
          (first | refine WF_pure (cAmong09 ⟨scLo now (truErr x), scHi now (truErr x)⟩ (scN x.wrong done.length) (by dsimp only; omega) (by omega)) rfl ?_ | refine WDQ_pure (cAmong09 ⟨scLo now (truErr x), scHi now (truErr x)⟩ (scN x.wrong done.length) (by dsimp only; omega) (by omega)) rfl ?_)
          simp (maxSteps := 400000) only [hrm, go_sem, simprocAttr]
          refine WQ_headA (done ++ [p], r, acc ++ [⟨at' + 1 + p, amongS ⟨scLo now (truErr x), scHi now (truErr x)⟩ (scN x.wrong done.length)⟩], at' + 1 + p) ⟨by rw [e1]; simp, by simp; omega, by rw [e3]; simp, hA.1, by simp at hA ⊢; omega⟩ (Nat.lt_succ_self _) ?_
          rw [sRow_app]
          simp (maxSteps := 400000) only [hnx, List.map_append, List.length_append, List.length_singleton, go_sem, simprocAttr]
theorem cScaled (s : HrShop) (x : Burnt) (hs : 1 ≤ s.kinds.length) (hs2 : s.kinds.length ≤ 6) (hx : BurntOk x) : PCall Tryz.prog 33 [s.pv, x.pv] (scaled s.kinds.length x).pv :=
  (cScaled0 s x hs hs2 hx).lessD (readPV_pl _)
end Abs
end Go.Proofs.YtdellinghbppgaaGreatDoor
