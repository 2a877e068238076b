/-
  LAWS: a result may be said with less: a list that is full is a list; also in the cells of a value.
  LAWS: what a value of a type looks like, for values that can be read as data. No conditions beyond the theorems' own.
  LAWS: a row of the call's own, built up and then never written again, is from there on an immutable list: at a loop's head the objects behind the kept ones are forgotten, and what named them whole is a value.
  LAWS: rows of the call's own memory that are handed to a call for good: they become immutable values, and are not named any more.
  LAWS: a value that says less, in its depth: nil slices as empty ones, slices whose capacity is not told.
  WHAT ALL LAWS' STATEMENTS ASK OF THE PROGRAM: closed facts; what the listed variables hold. No conditions beyond the theorems' own.
  THE DATA THAT LAYERS SHARE, as plain Lean, and how it stands as immutable values. Definitions.
  THE DATA OF CHAPTER 09, as plain Lean, and how it stands as immutable values. Definitions.
  THE DATA OF LAYER 3 (wick), as plain Lean, and how it stands as immutable values. Definitions.
  THE DATA OF THE LAYERS. Definitions.
-/
import Derived.Test.YtbojkcmohgbpaaaGreatDoorAbsEvX
import Derived.Test.YtbojkcmohgbpaaaGreatDoorTie
import Derived.Test.YtbojkcmohgbpaaaGreatDoorSeatTy
import Derived.Lib.LaidTab
import Derived.LaidLaws
import Derived.LaidSub
import Derived.LaidMore
import Derived.Lay
import Derived.MakeChecks
import Derived.Test.YtbojkcmohgbpaaaGreatDoorAbsDef
namespace Go.Proofs.YtbojkcmohgbpaaaGreatDoor
namespace Abs
variable {P : Program}
def Pless2 (q v : PV) : Prop := Pless1 q v ∨ ∃ sz xs, q = .slice sz xs true ∧ v = .slice sz xs false
theorem Pless2.rep {q v : PV} (h : Pless2 q v) {M : Nat → Prop} {w : World} {u : Value} (hr : RepP M w u q) : RepP M w u v := by
  rcases h with h | ⟨sz, xs, rfl, rfl⟩
  · exact h.rep hr
  · cases hr with
    | slice f hlen hcap hfull hsz hM hc hr => exact .slice f hlen hcap (by simp) hsz hM hc hr
    | empty hfull => exact .empty (by simp)
theorem Pless2.cell {q v : PV} (h : Pless2 q v) (hq : q.isCell = true) : v.isCell = true := by
  rcases h with (rfl | ⟨rfl, sz, rfl⟩) | ⟨sz, xs, rfl, rfl⟩
  · exact hq
  · rfl
  · rfl
def PlessC : List PV → List PV → Prop
  | [], [] => True
  | q :: a, v :: b => Pless2 q v ∧ PlessC a b
  | _, _ => False
theorem PlessC.get : ∀ {a b : List PV}, PlessC a b → a.length = b.length ∧ ∀ (i : Nat) (v : PV), b[i]? = some v → ∃ q, a[i]? = some q ∧ Pless2 q v
  | [], [], _ => ⟨rfl, by simp⟩
  | q :: a, v :: b, h => by
    obtain ⟨h1, h2⟩ := PlessC.get h.2
    refine ⟨by simp [h1], fun i u hi => ?_⟩
    cases i with
    | zero => cases hi; exact ⟨q, rfl, h.1⟩
    | succ i => exact h2 i u (by simpa using hi)
  | [], _ :: _, h => h.elim
  | _ :: _, [], h => h.elim
theorem PCall.lessC {f : FuncId} {args : List PV} {a b : List PV} (hc : PCall P f args (.agg a)) (h : PlessC a b) : PCall P f args (.agg b) := by
  intro M0 w cargs hM hg ha
  obtain ⟨h1, h2⟩ := hc M0 w cargs hM hg ha
  refine ⟨h1, h2.mono fun e w' he => ?_⟩
  obtain ⟨v', rfl, hv, hfr⟩ := he
  refine ⟨v', rfl, ?_, hfr⟩
  obtain ⟨g1, g2⟩ := h.get
  cases hv with
  | agg hn hs hr =>
    refine .agg (by omega) (fun c hcm => ?_) fun i c hi => ?_
    · obtain ⟨i, hi⟩ := List.getElem?_of_mem hcm
      obtain ⟨q, hq, hp⟩ := g2 i c hi
      exact hp.cell (hs q (List.mem_of_getElem? hq))
    · obtain ⟨q, hq, hp⟩ := g2 i c hi
      exact hp.rep (hr i q hq)
theorem pless2_refl (v : PV) : Pless2 v v := .inl (.inl rfl)
theorem pless2_full (sz : Nat) (xs : List PV) : Pless2 (.slice sz xs true) (.slice sz xs false) := .inr ⟨sz, xs, rfl, rfl⟩
end Abs
end Go.Proofs.YtbojkcmohgbpaaaGreatDoor
namespace Go.Proofs.YtbojkcmohgbpaaaGreatDoor
namespace Abs
variable {P : Program}
def structT (P : Program) (t : TypeId) : Option (List TypeId) :=
  match P.underlying t with
  | some (.struct fs) => some (fs.toList.map (·.type))
  | _ => none
def intT (P : Program) (t : TypeId) : Option IntKind :=
  match P.underlying t with
  | some (.int k) => some k
  | _ => none
def listT (P : Program) (t : TypeId) : Option (TypeId × Nat × Bool) :=
  match P.underlying t with
  | some (.slice e) => some (e, P.cellsOf e, isAggT P e == some true)
  | _ => none
def arrT (P : Program) (t : TypeId) : Option (Nat × TypeId) :=
  match P.underlying t with
  | some (.array m e) => some (m, e)
  | _ => none
def isStrT (P : Program) (t : TypeId) : Bool :=
  match P.underlying t with
  | some .string => true
  | _ => false
def PVall (P : Program) (n : Nat) : List TypeId → List PV → Prop
  | [], cs => cs = []
  | t :: ts, cs => ∃ a b, cs = a ++ b ∧ PVok P n t a ∧ PVall P n ts b
theorem pv_all {n : Nat} : ∀ {fs : List Field} {cs : List PV}, PVfields (PVok P n) fs cs → PVall P n (fs.map (·.type)) cs
  | [], _, h => h
  | _ :: _, _, ⟨a, b, h1, h2, h3⟩ => ⟨a, b, h1, h2, pv_all h3⟩
theorem pv_struct {n : Nat} {t : TypeId} {ts : List TypeId} {cs : List PV} (ht : structT P t = some ts) (h : PVok P (n + 1) t cs) : PVall P n ts cs := by
  unfold structT at ht
  unfold PVok at h
  split at ht
  · rename_i fs hu
    rw [hu] at h
    cases ht
    exact pv_all h
  · cases ht
theorem pv_int {n : Nat} {t : TypeId} {k : IntKind} {cs : List PV} (ht : intT P t = some k) (h : PVok P (n + 1) t cs) : ∃ m, cs = [.int k m] ∧ k.min ≤ m ∧ m ≤ k.max := by
  unfold intT at ht
  unfold PVok at h
  split at ht
  · rename_i k' hu
    rw [hu] at h
    cases ht
    obtain ⟨m, h1, h2⟩ := h
    exact ⟨m, h1, by simpa [Lit.wf] using h2⟩
  · cases ht
theorem pv_str {n : Nat} {t : TypeId} {cs : List PV} (ht : isStrT P t = true) (h : PVok P (n + 1) t cs) : ∃ s : ByteArray, cs = [.str s] ∧ s.size ≤ maxLen := by
  unfold isStrT at ht
  unfold PVok at h
  split at ht
  · rename_i hu
    rw [hu] at h
    exact h
  · cases ht
theorem pv_list {n : Nat} {t e : TypeId} {z : Nat} {g : Bool} {cs : List PV} (ht : listT P t = some (e, z, g)) (h : PVok P (n + 1) t cs) :
    ∃ xs, cs = [.slice z xs false] ∧ xs.length ≤ maxLen ∧ ∀ x, x ∈ xs → ∃ es, x = ofCells g es ∧ PVok P n e es := by
  unfold listT at ht
  unfold PVok at h
  split at ht
  · rename_i e' hu
    rw [hu] at h
    cases ht
    exact h
  · cases ht
theorem pv_arr {n : Nat} {t e : TypeId} {m : Nat} {cs : List PV} (ht : arrT P t = some (m, e)) (h : PVok P (n + 1) t cs) : PVarr (PVok P n e) m cs := by
  unfold arrT at ht
  unfold PVok at h
  split at ht
  · rename_i m' e' hu
    rw [hu] at h
    cases ht
    exact h
  · cases ht
theorem arr_ints {n : Nat} {t : TypeId} {k : IntKind} (ht : intT P t = some k) : ∀ {m : Nat} {cs : List PV}, PVarr (PVok P (n + 1) t) m cs → ∃ l : List Int, l.length = m ∧ cs = l.map (PV.int k) ∧ ∀ x, x ∈ l → k.min ≤ x ∧ x ≤ k.max
  | 0, _, h => ⟨[], rfl, h, fun _ h => by cases h⟩
  | m + 1, _, ⟨a, b, h1, h2, h3⟩ => by
    obtain ⟨l, e1, e2, e3⟩ := arr_ints ht h3
    obtain ⟨x, e4, e5⟩ := pv_int ht h2
    refine ⟨x :: l, by simp [e1], by simp [h1, e4, e2], fun y hy => ?_⟩
    rcases List.mem_cons.1 hy with rfl | hy
    · exact e5
    · exact e3 y hy
theorem list_of {α : Type} (f : α → PV) : ∀ {xs : List PV}, (∀ x, x ∈ xs → ∃ a, x = f a) → ∃ l : List α, xs = l.map f
  | [], _ => ⟨[], rfl⟩
  | x :: r, h => by
    obtain ⟨a, rfl⟩ := h x (by simp)
    obtain ⟨l, rfl⟩ := list_of f (xs := r) fun y hy => h y (by simp [hy])
    exact ⟨a :: l, rfl⟩
end Abs
end Go.Proofs.YtbojkcmohgbpaaaGreatDoor
namespace Go.Proofs.YtbojkcmohgbpaaaGreatDoor
namespace Abs
variable {P : Program} {H : Hints} {Q : Cont} {M0 : Nat → Prop}
end Abs
end Go.Proofs.YtbojkcmohgbpaaaGreatDoor
namespace Go.Proofs.YtbojkcmohgbpaaaGreatDoor
namespace Abs
variable {P : Program} {H : Hints} {Q : Cont} {M0 : Nat → Prop}
def killM (K : Nat → Bool) (m : List (Option Nat)) : List (Option Nat) := m.mapIdx fun i μ => if K i = true then none else μ
section
variable {M1 : Nat → Prop} {S : Mem} {K : Nat → Bool} (hM : ∀ b, Avoid M1 (killM K S.m) b → Avoid M0 S.m b)
include hM
end
def only1 (id : Nat) : AV → Prop
  | .p _ => True
  | .slice i _ _ _ => i = id
  | .ptr i _ _ _ => i = id
  | _ => False
theorem only1_nil (id : Nat) : (∀ a, a ∈ ([] : List AV) → only1 id a) = True := by simp
theorem only1_cons (id : Nat) (x : AV) (l : List AV) : (∀ a, a ∈ x :: l → only1 id a) = (only1 id x ∧ ∀ a, a ∈ l → only1 id a) := by simp
def flatB : PV → Bool
  | .bool _ => true
  | .int _ _ => true
  | .str _ => true
  | .agg cs => flatL cs
  | .tuple cs => flatL cs
  | .nilslice => true
  | .nilptr => true
  | .nilfunc => true
  | .niliface => true
  | .any => true
  | .iface _ v => flatB v
  | _ => false
where flatL : List PV → Bool
  | [] => true
  | c :: l => flatB c && flatL l
def frzF : Nat → Heap → AV → Option PV
  | _, _, .p v => if flatB v = true then some v else none
  | 0, _, _ => none
  | n + 1, h, .slice id ver off len => (frzRow (frzF n h) ver h[id]?).map fun q => .slice q.1 ((q.2.take (off + len)).drop off) false
  | n + 1, h, .agg cs => (frzList (frzF n h) cs).map .agg
  | n + 1, h, .tuple cs => (frzList (frzF n h) cs).map .tuple
  | _, _, _ => none
theorem frzF_p (n : Nat) (h : Heap) (v : PV) : frzF n h (.p v) = if flatB v = true then some v else none := by cases n <;> rfl
def PCallN (P : Program) (f : FuncId) (pargs : List PV) (v : PV) : Prop :=
  ∀ (M0 : Nat → Prop) (w : World) (cargs : Array Value), (∀ b, M0 b → b < w.heap.size) → GOk P w → PArgs M0 w cargs pargs →
    (∀ w', (callFunc f cargs).run P w' = .ok (.enter f cargs) w') ∧
    Calls P f cargs w fun e w' => ∃ v', e = .returned v' ∧ RepP (fun b => b < w.heap.size) w' v' v ∧ Fr [] w w'
theorem PCallN.pure {f : FuncId} {pargs : List PV} {v : PV} (h : PCallN P f pargs v) : PCall P f pargs v := by
  intro M0 w cargs hM hg ha
  obtain ⟨h1, h2⟩ := h M0 w cargs hM hg ha
  refine ⟨h1, h2.mono fun e w' he => ?_⟩
  obtain ⟨v', rfl, hv, hfr⟩ := he
  exact ⟨v', rfl, RepP.less hv hM, hfr⟩
def frzFE (h : Heap) : AEnd → Option PV
  | .ret a => frzF 8 h a
  | _ => none
theorem frzListF_map {α : Type} (n : Nat) (h : Heap) (f : α → PV) (hf : ∀ x, flatB (f x) = true) : ∀ l : List α, frzList (frzF n h) (l.map fun x => .p (f x)) = some (l.map f)
  | [] => rfl
  | x :: r => by rw [List.map_cons, frzList, frzListF_map n h f hf r, frzF_p, if_pos (hf x)]; rfl
theorem frzListF_app {α : Type} (n : Nat) (h : Heap) (f : α → PV) (hf : ∀ x, flatB (f x) = true) (m : List AV) : ∀ l : List α, frzList (frzF n h) ((l.map fun x => .p (f x)) ++ m) = (frzList (frzF n h) m).map (l.map f ++ ·)
  | [] => by cases hm : frzList (frzF n h) m <;> simp [hm]
  | x :: r => by
    rw [List.map_cons, List.cons_append, frzList, frzListF_app n h f hf m r, frzF_p, if_pos (hf x)]
    cases frzList (frzF n h) m <;> rfl
theorem frzListF_map2 {α : Type} (n : Nat) (h : Heap) (f : α → PV) (hf : ∀ x, flatB (f x) = true) (l : List α) : frzList (frzF n h) ((l.map f).map .p) = some (l.map f) := by
  rw [List.map_map]; exact frzListF_map n h f hf l
theorem frzListF_app2 {α : Type} (n : Nat) (h : Heap) (f : α → PV) (hf : ∀ x, flatB (f x) = true) (m : List AV) (l : List α) : frzList (frzF n h) ((l.map f).map .p ++ m) = (frzList (frzF n h) m).map (l.map f ++ ·) := by
  rw [List.map_map]; exact frzListF_app n h f hf m l
attribute [go_sem] frzListF_map2 frzListF_app2 flatB flatB.flatL frzF frzF_p frzFE frzListF_map frzListF_app
theorem repl_get (n : Nat) (t : Heap) (j : Nat) : (List.replicate n AObj.dead ++ t)[n + j]? = t[j]? := by rw [List.getElem?_append_right (by simp)]; simp
theorem repl_get0 (n : Nat) (t : Heap) : (List.replicate n AObj.dead ++ t)[n]? = t[0]? := repl_get n t 0
attribute [go_sem] repl_get repl_get0
section
variable {α τ : Type}
end
attribute [go_sem] only1 only1_nil only1_cons
end Abs
end Go.Proofs.YtbojkcmohgbpaaaGreatDoor
namespace Go.Proofs.YtbojkcmohgbpaaaGreatDoor
namespace Abs
variable {P : Program}
inductive PL : PV → PV → Prop
  | refl (v : PV) : PL v v
  | nil (sz : Nat) : PL .nilslice (.slice sz [] false)
  | agg {a b : List PV} (hl : a.length = b.length) (hc : ∀ c, c ∈ b → c.isCell = true) (h : ∀ (i : Nat) (q c : PV), a[i]? = some q → b[i]? = some c → PL q c) : PL (.agg a) (.agg b)
  | slice {sz : Nat} {xs ys : List PV} {full : Bool} (hl : xs.length = ys.length) (hc : ∀ y, y ∈ ys → y.cells.length = sz ∧ ∀ c, c ∈ y.cells → c.isCell = true) (h : ∀ (i : Nat) (q c : PV), xs[i]? = some q → ys[i]? = some c → PL q c) :
      PL (.slice sz xs full) (.slice sz ys false)
  | tuple {a b : List PV} (hl : a.length = b.length) (h : ∀ (i : Nat) (q c : PV), a[i]? = some q → b[i]? = some c → PL q c) : PL (.tuple a) (.tuple b)
theorem PL.cells {q v : PV} (h : PL q v) : q.cells.length = v.cells.length ∧ ∀ (j : Nat) (c d : PV), q.cells[j]? = some c → v.cells[j]? = some d → PL c d := by
  cases h with
  | refl v => exact ⟨rfl, fun j c d h1 h2 => by rw [h1] at h2; cases h2; exact .refl _⟩
  | nil sz => exact ⟨rfl, fun j c d h1 h2 => by cases j <;> cases h1; cases h2; exact .nil sz⟩
  | agg hl hc h => exact ⟨hl, h⟩
  | slice hl hc h => exact ⟨rfl, fun j c d h1 h2 => by cases j <;> cases h1; cases h2; exact .slice hl hc h⟩
  | tuple hl h => exact ⟨rfl, fun j c d h1 h2 => by cases j <;> cases h1; cases h2; exact .tuple hl h⟩
theorem PL.single {q y : PV} (h : PL q y) (hq : ∀ l, q ≠ .agg l) : y.cells = [y] := by
  cases h with
  | refl v => cases q with
    | agg l => exact absurd rfl (hq l)
    | _ => rfl
  | nil _ => rfl
  | agg _ _ _ => exact absurd rfl (hq _)
  | slice _ _ _ => rfl
  | tuple _ _ => rfl
theorem PL.rep {M : Nat → Prop} {w : World} {q v : PV} (h : PL q v) : ∀ {u : Value}, RepP M w u q → RepP M w u v := by
  induction h with
  | refl v => intro u hr; exact hr
  | nil sz => intro u hr; cases hr; exact .empty (by simp)
  | @agg a b hl hc h ih =>
    intro u hr
    cases hr with
    | agg hn hs hr =>
      refine .agg (by omega) hc fun i c hi => ?_
      have hlt : i < a.length := by have := (List.getElem?_eq_some_iff.1 hi).1; omega
      exact ih i _ c (List.getElem?_eq_getElem hlt) hi (hr i _ (List.getElem?_eq_getElem hlt))
  | @tuple a b hl h ih =>
    intro u hr
    cases hr with
    | tuple hn hr =>
      refine .tuple (by omega) fun i c hi => ?_
      have hlt : i < a.length := by have := (List.getElem?_eq_some_iff.1 hi).1; omega
      exact ih i _ c (List.getElem?_eq_getElem hlt) hi (hr i _ (List.getElem?_eq_getElem hlt))
  | @slice sz xs ys full hl hc h ih =>
    intro u hr
    cases hr with
    | empty hf =>
      have : ys = [] := List.length_eq_zero_iff.1 hl.symm
      subst this
      exact .empty (by simp)
    | slice f hlen hcap hfull hsz hm hcell hrep =>
      rw [hl] at hm hcell
      refine .slice f (by omega) hcap (by simp) hc hm hcell fun i j y c hy hj => ?_
      have hlt : i < xs.length := by have := (List.getElem?_eq_some_iff.1 hy).1; omega
      have hx : xs[i]? = some xs[i] := List.getElem?_eq_getElem hlt
      have hp := h i _ y hx hy
      obtain ⟨g1, g2⟩ := hp.cells
      have hsx := hsz _ (List.getElem_mem hlt)
      have hsy := hc y (List.mem_of_getElem? hy)
      -- the element as a value
      cases hxx : xs[i] with
      | agg a =>
        rw [hxx] at hp hsx hx
        obtain ⟨b, rfl⟩ : ∃ b, y = .agg b := by
          generalize hq : PV.agg a = q at hp
          cases hp with
          | refl v => exact ⟨a, hq.symm⟩
          | agg _ _ _ => exact ⟨_, rfl⟩
          | nil _ => cases hq
          | slice _ _ _ => cases hq
          | tuple _ _ => cases hq
        have hv : RepP M w (.agg (Array.ofFn fun k : Fin sz => f (i * sz + k.val))) (.agg a) := by
          refine .agg (by have := hsx.1; simp [PV.cells] at this; simp [this]) hsx.2 fun k c hk => ?_
          have hk' : k < sz := by have := (List.getElem?_eq_some_iff.1 hk).1; have := hsx.1; simp [PV.cells] at this; omega
          have := hrep i k (.agg a) c hx hk
          simpa [hk'] using this
        have hv2 := ih i _ _ hx hy hv
        cases hv2 with
        | agg hn hs hr2 =>
          have hk' : j < sz := by have := (List.getElem?_eq_some_iff.1 hj).1; have := hsy.1; omega
          have := hr2 j c hj
          simpa [hk'] using this
      | _ =>
        have hyc : y.cells = [y] := hp.single fun l => by rw [hxx]; simp
        have hxc : xs[i].cells = [xs[i]] := by rw [hxx]; rfl
        rw [hyc] at hj
        cases j with
        | zero =>
          cases hj
          exact ih i _ _ hx hy (hrep i 0 _ _ hx (by rw [hxc]; rfl))
        | succ j => cases hj
theorem PCall.lessD {f : FuncId} {args : List PV} {q v : PV} (hc : PCall P f args q) (h : PL q v) : PCall P f args v := by
  intro M0 w cargs hM hg ha
  obtain ⟨h1, h2⟩ := hc M0 w cargs hM hg ha
  refine ⟨h1, h2.mono fun e w' he => ?_⟩
  obtain ⟨v', rfl, hv, hfr⟩ := he
  exact ⟨v', rfl, h.rep hv, hfr⟩
def PLs : List PV → List PV → Prop
  | [], [] => True
  | q :: a, c :: b => PL q c ∧ PLs a b
  | _, _ => False
theorem PLs.get : ∀ {a b : List PV}, PLs a b → a.length = b.length ∧ ∀ (i : Nat) (q c : PV), a[i]? = some q → b[i]? = some c → PL q c
  | [], [], _ => ⟨rfl, by simp⟩
  | q :: a, c :: b, h => by
    obtain ⟨h1, h2⟩ := PLs.get h.2
    refine ⟨by simp [h1], fun i x y hx hy => ?_⟩
    cases i with
    | zero => cases hx; cases hy; exact h.1
    | succ i => exact h2 i x y (by simpa using hx) (by simpa using hy)
  | [], _ :: _, h => h.elim
  | _ :: _, [], h => h.elim
def cellsB (l : List PV) : Bool := l.all PV.isCell
def elemsB (sz : Nat) (l : List PV) : Bool := l.all fun y => y.cells.length == sz && y.cells.all PV.isCell
theorem PL.aggL {a b : List PV} (hc : cellsB b = true) (h : PLs a b) : PL (.agg a) (.agg b) := .agg h.get.1 (fun c hcb => List.all_eq_true.1 hc c hcb) h.get.2
theorem PL.sliceL {sz : Nat} {xs ys : List PV} {full : Bool} (hc : elemsB sz ys = true) (h : PLs xs ys) : PL (.slice sz xs full) (.slice sz ys false) :=
  .slice h.get.1 (fun y hy => by
    have := List.all_eq_true.1 hc y hy
    simp at this
    exact ⟨this.1, fun c hc => this.2 c hc⟩) h.get.2
theorem PL.tupleL {a b : List PV} (h : PLs a b) : PL (.tuple a) (.tuple b) := .tuple h.get.1 h.get.2
end Abs
end Go.Proofs.YtbojkcmohgbpaaaGreatDoor
namespace Go.Proofs.YtbojkcmohgbpaaaGreatDoor
open Go.ChangeShapes Go.WideShapes Go.ChangeAt Go.RowKit
namespace Abs
set_option maxRecDepth 100000
theorem ownKn : ownKnob Tryz.prog.godebug = none := by kernel_rfl
theorem laid : laidOutB Tryz.prog = true := by kernel_rfl
def TOkk (t : TypeId) : Prop := okT Tryz.prog 8 t = true ∧ Tryz.prog.readableRec t = true ∧ t < Tryz.prog.types.size
theorem okk27 : TOkk 27 := ⟨by kernel_rfl, by kernel_rfl, of_decide_eq_true (by kernel_rfl)⟩
theorem okk29 : TOkk 29 := ⟨by kernel_rfl, by kernel_rfl, of_decide_eq_true (by kernel_rfl)⟩
theorem okk34 : TOkk 34 := ⟨by kernel_rfl, by kernel_rfl, of_decide_eq_true (by kernel_rfl)⟩
def listed : List (String × DataW Unit) := Rows.topLastingRow.laid
theorem plain : ∀ W, laidMetH Tryz.prog listed W → laidMet Tryz.prog listed W := fun W h => by
  rw [MakeChecks.laidMetH_plain _ _ _ (by kernel_rfl)] at h
  exact h
theorem lone1 : listed.filter (fun x => x.1 == "internal/strconv.uint64pow10") = [("internal/strconv.uint64pow10", Lib.tabData .u64 Lib.pow10Tab)] := by rfl
theorem lone2 : listed.filter (fun x => x.1 == "strconv.ErrSyntax") = [("strconv.ErrSyntax", Rows.laid_strconv_ErrSyntax)] := by rfl
theorem lone3 : listed.filter (fun x => x.1 == "strconv.ErrRange") = [("strconv.ErrRange", Rows.laid_strconv_ErrRange)] := by rfl
theorem errT : ∃ ms, Tryz.prog.underlying 178 = some (.interface ms) := ⟨_, rfl⟩
theorem sentinelAt {W : World} {name nm : String} {d : DataW Unit} {g : Nat} (hg : Tryz.prog.globalNamed name = some g) (ht : (Tryz.prog.globals[g]?).map (·.type) = some 178)
    (h : laidMet Tryz.prog [(name, .iface nm d)] W) : ∃ tp p, W.var? Tryz.prog name = some #[.iface tp p] := by
  obtain ⟨ps, ⟨g', t', cs, fuel, p, q, hg', ht', hvar, hd, _, _⟩, _⟩ := h
  obtain rfl := Option.some.inj (hg.symm.trans hg')
  obtain rfl := Option.some.inj (ht.symm.trans ht')
  obtain ⟨ms, hms⟩ := errT
  obtain ⟨f1, u, v, hcs, _, _⟩ := iface_of_trod hms hd
  refine ⟨u, v, ?_⟩
  rw [hvar]
  congr 1
  apply Array.ext'
  simpa using hcs
theorem gok {W : World} (h0 : laidMetH Tryz.prog listed W) : GOk Tryz.prog W := by
  have h := plain W h0
  refine ⟨fun b hb => ?_, fun b hb => ?_, fun b hb => ?_⟩
  · have := h.filter (fun x => x.1 == "internal/strconv.uint64pow10")
    rw [lone1] at this
    exact Lib.tabIs_of_head (g := 5) (t := 245) (e := 226) (n := 20) (by kernel_rfl) (by kernel_rfl) (by kernel_rfl) (by kernel_rfl) (by kernel_rfl) (by kernel_rfl) this
  · have := h.filter (fun x => x.1 == "strconv.ErrSyntax")
    rw [lone2] at this
    exact sentinelAt (g := 1) (by kernel_rfl) (by kernel_rfl) this
  · have := h.filter (fun x => x.1 == "strconv.ErrRange")
    rw [lone3] at this
    exact sentinelAt (g := 2) (by kernel_rfl) (by kernel_rfl) this
end Abs
end Go.Proofs.YtbojkcmohgbpaaaGreatDoor
namespace Go.Proofs.YtbojkcmohgbpaaaGreatDoor
namespace Abs
structure Span where
  lo : Int
  hi : Int
def intPV (n : Int) : PV := .int .i64 n
def Span.pv (s : Span) : PV := .agg [.int .i64 s.lo, .int .i64 s.hi]
attribute [go_sem] intPV Span.pv
end Abs
end Go.Proofs.YtbojkcmohgbpaaaGreatDoor
namespace Go.Proofs.YtbojkcmohgbpaaaGreatDoor
namespace Abs
structure HrKind where
  name : ByteArray
  weight : Span
  rest : Int
structure HrRule where
  name : ByteArray
  minutes : Span
  weight : Span
structure HrMark where
  minute : Int
  weight : Int
  deriving DecidableEq
structure HrTest where
  kind : Int
  error : Int
  marks : List HrMark
structure HrShop where
  kinds : List HrKind
  rules : List HrRule
  margin : Int
structure HrBox where
  kind : Int
  hours : Int
def HrKind.pv (k : HrKind) : PV := .agg [.str k.name, .int .i64 k.weight.lo, .int .i64 k.weight.hi, .int .i64 k.rest]
def HrRule.pv (r : HrRule) : PV := .agg [.str r.name, .int .i64 r.minutes.lo, .int .i64 r.minutes.hi, .int .i64 r.weight.lo, .int .i64 r.weight.hi]
def HrMark.pv (m : HrMark) : PV := .agg [.int .i64 m.minute, .int .i64 m.weight]
def HrTest.pv (t : HrTest) : PV := .agg [.int .i64 t.kind, .int .i64 t.error, .slice 2 (t.marks.map HrMark.pv) false]
def HrShop.pv (s : HrShop) : PV := .agg [.slice 4 (s.kinds.map HrKind.pv) false, .slice 5 (s.rules.map HrRule.pv) false, .int .i64 s.margin]
def HrBox.pv (b : HrBox) : PV := .agg [.int .i64 b.kind, .int .i64 b.hours]
attribute [go_sem] HrKind.pv HrRule.pv HrMark.pv HrTest.pv HrShop.pv HrBox.pv
end Abs
end Go.Proofs.YtbojkcmohgbpaaaGreatDoor
namespace Go.Proofs.YtbojkcmohgbpaaaGreatDoor
namespace Abs
structure Wick where
  name : ByteArray
  threads : Int
  pull : Span
structure Wax where
  name : ByteArray
  flow : Span
  rise : Span
  spread : Span
  chill : Int
structure Shop where
  wicks : List Wick
  waxes : List Wax
  flame : Span
  pool : Span
structure Candle where
  wax : Int
  diameter : Int
  draught : Int
  cold : Span
structure Truth where
  pull : Int
  flow : Int
  rise : Int
  spread : Int
  draught : Int
  cold : Int
structure Burn where
  rate : Int
  flame : Int
  pool : Int
def Wick.pv (x : Wick) : PV := .agg [.str x.name, .int .i64 x.threads, .int .i64 x.pull.lo, .int .i64 x.pull.hi]
def Wax.pv (x : Wax) : PV := .agg [.str x.name, .int .i64 x.flow.lo, .int .i64 x.flow.hi, .int .i64 x.rise.lo, .int .i64 x.rise.hi, .int .i64 x.spread.lo, .int .i64 x.spread.hi, .int .i64 x.chill]
def Shop.pv (s : Shop) : PV := .agg [.slice 4 (s.wicks.map Wick.pv) false, .slice 8 (s.waxes.map Wax.pv) false, .int .i64 s.flame.lo, .int .i64 s.flame.hi, .int .i64 s.pool.lo, .int .i64 s.pool.hi]
def Candle.pv (c : Candle) : PV := .agg [.int .i64 c.wax, .int .i64 c.diameter, .int .i64 c.draught, .int .i64 c.cold.lo, .int .i64 c.cold.hi]
def Truth.pv (t : Truth) : PV := .agg [.int .i64 t.pull, .int .i64 t.flow, .int .i64 t.rise, .int .i64 t.spread, .int .i64 t.draught, .int .i64 t.cold]
def Burn.pv (b : Burn) : PV := .agg [.int .i64 b.rate, .int .i64 b.flame, .int .i64 b.pool]
attribute [go_sem] Wick.pv Wax.pv Shop.pv Candle.pv Truth.pv Burn.pv
end Abs
end Go.Proofs.YtbojkcmohgbpaaaGreatDoor

