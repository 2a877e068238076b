/-
  LAWS: a value that says less, in its depth: nil slices as empty ones, slices whose capacity is not told.
-/
import Derived.Test.YthekmbikolpmlaaAbsKill
namespace Go.Proofs.Ythekmbikolpmlaa
namespace Abs
variable {P : Program}

inductive PL : PV → PV → Prop
  | refl (v : PV) : PL v v
  | nil (sz : Nat) : PL .nilslice (.slice sz [] false)
  | agg {a b : List PV} (hl : a.length = b.length) (hc : ∀ c, c ∈ b → c.isCell = true) (h : ∀ (i : Nat) (q c : PV), a[i]? = some q → b[i]? = some c → PL q c) : PL (.agg a) (.agg b)
  | slice {sz : Nat} {xs ys : List PV} {full : Bool} (hl : xs.length = ys.length) (hc : ∀ y, y ∈ ys → y.cells.length = sz ∧ ∀ c, c ∈ y.cells → c.isCell = true) (h : ∀ (i : Nat) (q c : PV), xs[i]? = some q → ys[i]? = some c → PL q c) :
      PL (.slice sz xs full) (.slice sz ys false)
  | tuple {a b : List PV} (hl : a.length = b.length) (h : ∀ (i : Nat) (q c : PV), a[i]? = some q → b[i]? = some c → PL q c) : PL (.tuple a) (.tuple b)
theorem PL.cells {q v : PV} (h : PL q v) : q.cells.length = v.cells.length ∧ ∀ (j : Nat) (c d : PV), q.cells[j]? = some c → v.cells[j]? = some d → PL c d := by
  cases h with
  | refl v => exact ⟨rfl, fun j c d h1 h2 => by rw [h1] at h2; cases h2; exact .refl _⟩
  | nil sz => exact ⟨rfl, fun j c d h1 h2 => by cases j <;> cases h1; cases h2; exact .nil sz⟩
  | agg hl hc h => exact ⟨hl, h⟩
  | slice hl hc h => exact ⟨rfl, fun j c d h1 h2 => by cases j <;> cases h1; cases h2; exact .slice hl hc h⟩
  | tuple hl h => exact ⟨rfl, fun j c d h1 h2 => by cases j <;> cases h1; cases h2; exact .tuple hl h⟩
theorem PL.single {q y : PV} (h : PL q y) (hq : ∀ l, q ≠ .agg l) : y.cells = [y] := by
  cases h with
  | refl v => cases q with
    | agg l => exact absurd rfl (hq l)
    | _ => rfl
  | nil _ => rfl
  | agg _ _ _ => exact absurd rfl (hq _)
  | slice _ _ _ => rfl
  | tuple _ _ => rfl
theorem PL.rep {M : Nat → Prop} {w : World} {q v : PV} (h : PL q v) : ∀ {u : Value}, RepP M w u q → RepP M w u v := by
  induction h with
  | refl v => intro u hr; exact hr
  | nil sz => intro u hr; cases hr; exact .empty (by simp)
  | @agg a b hl hc h ih =>
    intro u hr
    cases hr with
    | agg hn hs hr =>
      refine .agg (by omega) hc fun i c hi => ?_
      have hlt : i < a.length := by have := (List.getElem?_eq_some_iff.1 hi).1; omega
      exact ih i _ c (List.getElem?_eq_getElem hlt) hi (hr i _ (List.getElem?_eq_getElem hlt))
  | @tuple a b hl h ih =>
    intro u hr
    cases hr with
    | tuple hn hr =>
      refine .tuple (by omega) fun i c hi => ?_
      have hlt : i < a.length := by have := (List.getElem?_eq_some_iff.1 hi).1; omega
      exact ih i _ c (List.getElem?_eq_getElem hlt) hi (hr i _ (List.getElem?_eq_getElem hlt))
  | @slice sz xs ys full hl hc h ih =>
    intro u hr
    cases hr with
    | empty hf =>
      have : ys = [] := List.length_eq_zero_iff.1 hl.symm
      subst this
      exact .empty (by simp)
    | slice f hlen hcap hfull hsz hm hcell hrep =>
      rw [hl] at hm hcell
      refine .slice f (by omega) hcap (by simp) hc hm hcell fun i j y c hy hj => ?_
      have hlt : i < xs.length := by have := (List.getElem?_eq_some_iff.1 hy).1; omega
      have hx : xs[i]? = some xs[i] := List.getElem?_eq_getElem hlt
      have hp := h i _ y hx hy
      obtain ⟨g1, g2⟩ := hp.cells
      have hsx := hsz _ (List.getElem_mem hlt)
      have hsy := hc y (List.mem_of_getElem? hy)
      -- the element as a value
      cases hxx : xs[i] with
      | agg a =>
        rw [hxx] at hp hsx hx
        obtain ⟨b, rfl⟩ : ∃ b, y = .agg b := by
          generalize hq : PV.agg a = q at hp
          cases hp with
          | refl v => exact ⟨a, hq.symm⟩
          | agg _ _ _ => exact ⟨_, rfl⟩
          | nil _ => cases hq
          | slice _ _ _ => cases hq
          | tuple _ _ => cases hq
        have hv : RepP M w (.agg (Array.ofFn fun k : Fin sz => f (i * sz + k.val))) (.agg a) := by
          refine .agg (by have := hsx.1; simp [PV.cells] at this; simp [this]) hsx.2 fun k c hk => ?_
          have hk' : k < sz := by have := (List.getElem?_eq_some_iff.1 hk).1; have := hsx.1; simp [PV.cells] at this; omega
          have := hrep i k (.agg a) c hx hk
          simpa [hk'] using this
        have hv2 := ih i _ _ hx hy hv
        cases hv2 with
        | agg hn hs hr2 =>
          have hk' : j < sz := by have := (List.getElem?_eq_some_iff.1 hj).1; have := hsy.1; omega
          have := hr2 j c hj
          simpa [hk'] using this
      | _ =>
        have hyc : y.cells = [y] := hp.single fun l => by rw [hxx]; simp
        have hxc : xs[i].cells = [xs[i]] := by rw [hxx]; rfl
        rw [hyc] at hj
        cases j with
        | zero =>
          cases hj
          exact ih i _ _ hx hy (hrep i 0 _ _ hx (by rw [hxc]; rfl))
        | succ j => cases hj
theorem PCall.lessD {f : FuncId} {args : List PV} {q v : PV} (hc : PCall P f args q) (h : PL q v) : PCall P f args v := by
  intro M0 w cargs hM ha
  obtain ⟨h1, h2⟩ := hc M0 w cargs hM ha
  refine ⟨h1, h2.mono fun e w' he => ?_⟩
  obtain ⟨v', rfl, hv, hfr⟩ := he
  exact ⟨v', rfl, h.rep hv, hfr⟩
/-- side by side -/
def PLs : List PV → List PV → Prop
  | [], [] => True
  | q :: a, c :: b => PL q c ∧ PLs a b
  | _, _ => False
theorem PLs.get : ∀ {a b : List PV}, PLs a b → a.length = b.length ∧ ∀ (i : Nat) (q c : PV), a[i]? = some q → b[i]? = some c → PL q c
  | [], [], _ => ⟨rfl, by simp⟩
  | q :: a, c :: b, h => by
    obtain ⟨h1, h2⟩ := PLs.get h.2
    refine ⟨by simp [h1], fun i x y hx hy => ?_⟩
    cases i with
    | zero => cases hx; cases hy; exact h.1
    | succ i => exact h2 i x y (by simpa using hx) (by simpa using hy)
  | [], _ :: _, h => h.elim
  | _ :: _, [], h => h.elim
/-- looked at: cells only -/
def cellsB (l : List PV) : Bool := l.all PV.isCell
def elemsB (sz : Nat) (l : List PV) : Bool := l.all fun y => y.cells.length == sz && y.cells.all PV.isCell
theorem PL.aggL {a b : List PV} (hc : cellsB b = true) (h : PLs a b) : PL (.agg a) (.agg b) := .agg h.get.1 (fun c hcb => List.all_eq_true.1 hc c hcb) h.get.2
theorem PL.sliceL {sz : Nat} {xs ys : List PV} {full : Bool} (hc : elemsB sz ys = true) (h : PLs xs ys) : PL (.slice sz xs full) (.slice sz ys false) :=
  .slice h.get.1 (fun y hy => by
    have := List.all_eq_true.1 hc y hy
    simp at this
    exact ⟨this.1, fun c hc => this.2 c hc⟩) h.get.2
theorem PL.tupleL {a b : List PV} (h : PLs a b) : PL (.tuple a) (.tuple b) := .tuple h.get.1 h.get.2
end Abs
end Go.Proofs.Ythekmbikolpmlaa
