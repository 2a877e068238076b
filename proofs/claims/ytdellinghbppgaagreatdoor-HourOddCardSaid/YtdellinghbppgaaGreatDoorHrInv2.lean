/-
  WHAT THE OTHER ARGUMENTS OF THE LAWS OF LAYER 9 LOOK LIKE. No conditions beyond the theorems' own.
-/
import Derived.Test.YtdellinghbppgaaGreatDoorHrInv
import Derived.Test.YtdellinghbppgaaGreatDoorHrTruth
namespace Go.Proofs.YtdellinghbppgaaGreatDoor
namespace Abs
set_option linter.unusedVariables false
set_option maxRecDepth 100000
theorem invU16L {n : Nat} {cs : List PV} (h : PVok Tryz.prog (n + 2) 57 cs) : ∃ l : List Int, cs = [.slice 1 (l.map u16PV) false] ∧ ∀ v, v ∈ l → 0 ≤ v ∧ v ≤ 65535 := by
  obtain ⟨xs, rfl, hlen, hx⟩ := pv_list (e := 56) (z := 1) (g := false) (by kernel_rfl) h
  have key : ∃ l : List Int, xs = l.map u16PV ∧ ∀ v, v ∈ l → 0 ≤ v ∧ v ≤ 65535 := by
    clear h hlen
    induction xs with
    | nil => exact ⟨[], rfl, fun _ h => by cases h⟩
    | cons x xs ih =>
      obtain ⟨l, rfl, hl⟩ := ih fun y hy => hx y (by simp [hy])
      obtain ⟨es, rfl, h⟩ := hx x (by simp)
      obtain ⟨m, rfl, h1, h2⟩ := pv_int (k := .u16) (by kernel_rfl) h
      exact ⟨m :: l, rfl, fun v hv => by
        rcases List.mem_cons.1 hv with rfl | hv
        · exact ⟨h1, h2⟩
        · exact hl v hv⟩
  obtain ⟨l, rfl, hl⟩ := key
  exact ⟨l, rfl, hl⟩
theorem burnt_of {v : PV} (h : valOk Tryz.prog 8 59 v) : ∃ x : Burnt, v = x.pv ∧ BurntOk x := by
  obtain ⟨cs, rfl, h⟩ := h
  rw [show (isAggT Tryz.prog 59 == some true) = true by kernel_rfl, ofCells_true]
  obtain ⟨a, _, rfl, ha, b, _, rfl, hb, c, _, rfl, hc, d, _, rfl, hd, e, _, rfl, he, f, _, rfl, hf, rfl⟩ := pv_struct (ts := [5, 55, 55, 56, 57, 57]) (by kernel_rfl) h
  obtain ⟨k, rfl, k1, k2⟩ := pv_int (k := .u8) (by kernel_rfl) ha
  obtain ⟨w, rfl, w1, w2⟩ := pv_int (k := .u32) (by kernel_rfl) hb
  obtain ⟨r, rfl, r1, r2⟩ := pv_int (k := .u32) (by kernel_rfl) hc
  obtain ⟨e', rfl, e1, e2⟩ := pv_int (k := .u16) (by kernel_rfl) hd
  obtain ⟨x, rfl, hx⟩ := invU16L he
  obtain ⟨y, rfl, hy⟩ := invU16L hf
  exact ⟨⟨k, w, r, e', x, y⟩, rfl, ⟨⟨k1, k2⟩, ⟨w1, w2⟩, ⟨r1, r2⟩, ⟨e1, e2⟩, hx, hy⟩⟩
theorem kept_of {v : PV} (h : valOk Tryz.prog 8 70 v) : ∃ l k w r, v = keptPV l k w r ∧ (0 ≤ k ∧ k ≤ 255) ∧ (0 ≤ w ∧ w ≤ 4294967295) ∧ (0 ≤ r ∧ r ≤ 4294967295) := by
  obtain ⟨cs, rfl, h⟩ := h
  rw [show (isAggT Tryz.prog 70 == some true) = true by kernel_rfl, ofCells_true]
  obtain ⟨a, _, rfl, ha, b, _, rfl, hb, c, _, rfl, hc, d, _, rfl, hd, rfl⟩ := pv_struct (ts := [50, 5, 55, 55]) (by kernel_rfl) h
  obtain ⟨l, rfl⟩ := invHrTests ha
  obtain ⟨k, rfl, k1, k2⟩ := pv_int (k := .u8) (by kernel_rfl) hb
  obtain ⟨w, rfl, w1, w2⟩ := pv_int (k := .u32) (by kernel_rfl) hc
  obtain ⟨r, rfl, r1, r2⟩ := pv_int (k := .u32) (by kernel_rfl) hd
  exact ⟨l, k, w, r, rfl, ⟨k1, k2⟩, ⟨w1, w2⟩, ⟨r1, r2⟩⟩
theorem words_of {v : PV} (h : valOk Tryz.prog 8 80 v) : ∃ a b, v = .agg [.int .u32 a, .int .u32 b] ∧ (0 ≤ a ∧ a ≤ 4294967295) ∧ (0 ≤ b ∧ b ≤ 4294967295) := by
  obtain ⟨cs, rfl, h⟩ := h
  obtain ⟨l, hl, rfl, hx⟩ := arr_ints (k := .u32) (t := 55) (by kernel_rfl) (pv_arr (m := 2) (e := 55) (by kernel_rfl) h)
  match l, hl with
  | [a, b], _ =>
    rw [show (isAggT Tryz.prog 80 == some true) = true by kernel_rfl, ofCells_true]
    exact ⟨a, b, rfl, hx a (by simp), hx b (by simp)⟩
theorem bytes_of {v : PV} (h : valOk Tryz.prog 8 82 v) : ∃ a b, v = .agg [.int .u8 a, .int .u8 b] ∧ (0 ≤ a ∧ a ≤ 255) ∧ (0 ≤ b ∧ b ≤ 255) := by
  obtain ⟨cs, rfl, h⟩ := h
  obtain ⟨l, hl, rfl, hx⟩ := arr_ints (k := .u8) (t := 5) (by kernel_rfl) (pv_arr (m := 2) (e := 5) (by kernel_rfl) h)
  match l, hl with
  | [a, b], _ =>
    rw [show (isAggT Tryz.prog 82 == some true) = true by kernel_rfl, ofCells_true]
    exact ⟨a, b, rfl, hx a (by simp), hx b (by simp)⟩
end Abs
end Go.Proofs.YtdellinghbppgaaGreatDoor
