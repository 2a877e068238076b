/-
  LAWS: a result may be said with less: a list that is full is a list; also in the cells of a value.
-/
import Derived.Test.YtdgmmijimclooaaAbsRead
namespace Go.Proofs.Ytdgmmijimclooaa
namespace Abs
variable {P : Program}
def Pless2 (q v : PV) : Prop := Pless1 q v ∨ ∃ sz xs, q = .slice sz xs true ∧ v = .slice sz xs false
theorem Pless2.rep {q v : PV} (h : Pless2 q v) {M : Nat → Prop} {w : World} {u : Value} (hr : RepP M w u q) : RepP M w u v := by
  rcases h with h | ⟨sz, xs, rfl, rfl⟩
  · exact h.rep hr
  · cases hr with
    | slice f hlen hcap hfull hsz hM hc hr => exact .slice f hlen hcap (by simp) hsz hM hc hr
    | empty hfull => exact .empty (by simp)
theorem Pless2.cell {q v : PV} (h : Pless2 q v) (hq : q.isCell = true) : v.isCell = true := by
  rcases h with (rfl | ⟨rfl, sz, rfl⟩) | ⟨sz, xs, rfl, rfl⟩
  · exact hq
  · rfl
  · rfl
def PlessC : List PV → List PV → Prop
  | [], [] => True
  | q :: a, v :: b => Pless2 q v ∧ PlessC a b
  | _, _ => False
theorem PlessC.get : ∀ {a b : List PV}, PlessC a b → a.length = b.length ∧ ∀ (i : Nat) (v : PV), b[i]? = some v → ∃ q, a[i]? = some q ∧ Pless2 q v
  | [], [], _ => ⟨rfl, by simp⟩
  | q :: a, v :: b, h => by
    obtain ⟨h1, h2⟩ := PlessC.get h.2
    refine ⟨by simp [h1], fun i u hi => ?_⟩
    cases i with
    | zero => cases hi; exact ⟨q, rfl, h.1⟩
    | succ i => exact h2 i u (by simpa using hi)
  | [], _ :: _, h => h.elim
  | _ :: _, [], h => h.elim
theorem PCall.lessC {f : FuncId} {args : List PV} {a b : List PV} (hc : PCall P f args (.agg a)) (h : PlessC a b) : PCall P f args (.agg b) := by
  intro M0 w cargs hM ha
  obtain ⟨h1, h2⟩ := hc M0 w cargs hM ha
  refine ⟨h1, h2.mono fun e w' he => ?_⟩
  obtain ⟨v', rfl, hv, hfr⟩ := he
  refine ⟨v', rfl, ?_, hfr⟩
  obtain ⟨g1, g2⟩ := h.get
  cases hv with
  | agg hn hs hr =>
    refine .agg (by omega) (fun c hcm => ?_) fun i c hi => ?_
    · obtain ⟨i, hi⟩ := List.getElem?_of_mem hcm
      obtain ⟨q, hq, hp⟩ := g2 i c hi
      exact hp.cell (hs q (List.mem_of_getElem? hq))
    · obtain ⟨q, hq, hp⟩ := g2 i c hi
      exact hp.rep (hr i q hq)
theorem pless2_refl (v : PV) : Pless2 v v := .inl (.inl rfl)
theorem pless2_full (sz : Nat) (xs : List PV) : Pless2 (.slice sz xs true) (.slice sz xs false) := .inr ⟨sz, xs, rfl, rfl⟩
end Abs
end Go.Proofs.Ytdgmmijimclooaa
