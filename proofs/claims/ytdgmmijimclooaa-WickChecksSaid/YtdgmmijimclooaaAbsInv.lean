/-
  LAWS: what a value of a type looks like, for values that can be read as data. No conditions beyond the theorems' own.
-/
import Derived.Test.YtdgmmijimclooaaAbsLess
namespace Go.Proofs.Ytdgmmijimclooaa
namespace Abs
variable {P : Program}
/-- the types of a struct's fields -/
def structT (P : Program) (t : TypeId) : Option (List TypeId) :=
  match P.underlying t with
  | some (.struct fs) => some (fs.toList.map (·.type))
  | _ => none
def intT (P : Program) (t : TypeId) : Option IntKind :=
  match P.underlying t with
  | some (.int k) => some k
  | _ => none
def listT (P : Program) (t : TypeId) : Option (TypeId × Nat × Bool) :=
  match P.underlying t with
  | some (.slice e) => some (e, P.cellsOf e, isAggT P e == some true)
  | _ => none
def arrT (P : Program) (t : TypeId) : Option (Nat × TypeId) :=
  match P.underlying t with
  | some (.array m e) => some (m, e)
  | _ => none
def isStrT (P : Program) (t : TypeId) : Bool :=
  match P.underlying t with
  | some .string => true
  | _ => false
def isBoolT (P : Program) (t : TypeId) : Bool :=
  match P.underlying t with
  | some .bool => true
  | _ => false
/-- cells of values of these types, one behind the other -/
def PVall (P : Program) (n : Nat) : List TypeId → List PV → Prop
  | [], cs => cs = []
  | t :: ts, cs => ∃ a b, cs = a ++ b ∧ PVok P n t a ∧ PVall P n ts b
theorem pv_all {n : Nat} : ∀ {fs : List Field} {cs : List PV}, PVfields (PVok P n) fs cs → PVall P n (fs.map (·.type)) cs
  | [], _, h => h
  | _ :: _, _, ⟨a, b, h1, h2, h3⟩ => ⟨a, b, h1, h2, pv_all h3⟩
theorem pv_struct {n : Nat} {t : TypeId} {ts : List TypeId} {cs : List PV} (ht : structT P t = some ts) (h : PVok P (n + 1) t cs) : PVall P n ts cs := by
  unfold structT at ht
  unfold PVok at h
  split at ht
  · rename_i fs hu
    rw [hu] at h
    cases ht
    exact pv_all h
  · cases ht
theorem pv_int {n : Nat} {t : TypeId} {k : IntKind} {cs : List PV} (ht : intT P t = some k) (h : PVok P (n + 1) t cs) : ∃ m, cs = [.int k m] ∧ k.min ≤ m ∧ m ≤ k.max := by
  unfold intT at ht
  unfold PVok at h
  split at ht
  · rename_i k' hu
    rw [hu] at h
    cases ht
    obtain ⟨m, h1, h2⟩ := h
    exact ⟨m, h1, by simpa [Lit.wf] using h2⟩
  · cases ht
theorem pv_str {n : Nat} {t : TypeId} {cs : List PV} (ht : isStrT P t = true) (h : PVok P (n + 1) t cs) : ∃ s : ByteArray, cs = [.str s] ∧ s.size ≤ maxLen := by
  unfold isStrT at ht
  unfold PVok at h
  split at ht
  · rename_i hu
    rw [hu] at h
    exact h
  · cases ht
theorem pv_bool {n : Nat} {t : TypeId} {cs : List PV} (ht : isBoolT P t = true) (h : PVok P (n + 1) t cs) : ∃ b, cs = [.bool b] := by
  unfold isBoolT at ht
  unfold PVok at h
  split at ht
  · rename_i hu
    rw [hu] at h
    exact h
  · cases ht
theorem pv_list {n : Nat} {t e : TypeId} {z : Nat} {g : Bool} {cs : List PV} (ht : listT P t = some (e, z, g)) (h : PVok P (n + 1) t cs) :
    ∃ xs, cs = [.slice z xs false] ∧ xs.length ≤ maxLen ∧ ∀ x, x ∈ xs → ∃ es, x = ofCells g es ∧ PVok P n e es := by
  unfold listT at ht
  unfold PVok at h
  split at ht
  · rename_i e' hu
    rw [hu] at h
    cases ht
    exact h
  · cases ht
theorem pv_arr {n : Nat} {t e : TypeId} {m : Nat} {cs : List PV} (ht : arrT P t = some (m, e)) (h : PVok P (n + 1) t cs) : PVarr (PVok P n e) m cs := by
  unfold arrT at ht
  unfold PVok at h
  split at ht
  · rename_i m' e' hu
    rw [hu] at h
    cases ht
    exact h
  · cases ht
theorem arr_ints {n : Nat} {t : TypeId} {k : IntKind} (ht : intT P t = some k) : ∀ {m : Nat} {cs : List PV}, PVarr (PVok P (n + 1) t) m cs → ∃ l : List Int, l.length = m ∧ cs = l.map (PV.int k) ∧ ∀ x, x ∈ l → k.min ≤ x ∧ x ≤ k.max
  | 0, _, h => ⟨[], rfl, h, fun _ h => by cases h⟩
  | m + 1, _, ⟨a, b, h1, h2, h3⟩ => by
    obtain ⟨l, e1, e2, e3⟩ := arr_ints ht h3
    obtain ⟨x, e4, e5⟩ := pv_int ht h2
    refine ⟨x :: l, by simp [e1], by simp [h1, e4, e2], fun y hy => ?_⟩
    rcases List.mem_cons.1 hy with rfl | hy
    · exact e5
    · exact e3 y hy
theorem list_of {α : Type} (f : α → PV) : ∀ {xs : List PV}, (∀ x, x ∈ xs → ∃ a, x = f a) → ∃ l : List α, xs = l.map f
  | [], _ => ⟨[], rfl⟩
  | x :: r, h => by
    obtain ⟨a, rfl⟩ := h x (by simp)
    obtain ⟨l, rfl⟩ := list_of f (xs := r) fun y hy => h y (by simp [hy])
    exact ⟨a :: l, rfl⟩
end Abs
end Go.Proofs.Ytdgmmijimclooaa
