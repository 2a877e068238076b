/-
  LAWS: a result may be said with less: a list that is full is a list; also in the cells of a value.
  LAWS: what a value of a type looks like, for values that can be read as data. No conditions beyond the theorems' own.
  LAWS: a row of the call's own, built up and then never written again, is from there on an immutable list: at a loop's head the objects behind the kept ones are forgotten, and what named them whole is a value.
-/
import Derived.Test.YtdellinghbppgaaGreatDoorAbsRead
namespace Go.Proofs.YtdellinghbppgaaGreatDoor
namespace Abs
variable {P : Program}
def Pless2 (q v : PV) : Prop := Pless1 q v ∨ ∃ sz xs, q = .slice sz xs true ∧ v = .slice sz xs false
theorem Pless2.rep {q v : PV} (h : Pless2 q v) {M : Nat → Prop} {w : World} {u : Value} (hr : RepP M w u q) : RepP M w u v := by
  rcases h with h | ⟨sz, xs, rfl, rfl⟩
  · exact h.rep hr
  · cases hr with
    | slice f hlen hcap hfull hsz hM hc hr => exact .slice f hlen hcap (by simp) hsz hM hc hr
    | empty hfull => exact .empty (by simp)
theorem Pless2.cell {q v : PV} (h : Pless2 q v) (hq : q.isCell = true) : v.isCell = true := by
  rcases h with (rfl | ⟨rfl, sz, rfl⟩) | ⟨sz, xs, rfl, rfl⟩
  · exact hq
  · rfl
  · rfl
def PlessC : List PV → List PV → Prop
  | [], [] => True
  | q :: a, v :: b => Pless2 q v ∧ PlessC a b
  | _, _ => False
theorem PlessC.get : ∀ {a b : List PV}, PlessC a b → a.length = b.length ∧ ∀ (i : Nat) (v : PV), b[i]? = some v → ∃ q, a[i]? = some q ∧ Pless2 q v
  | [], [], _ => ⟨rfl, by simp⟩
  | q :: a, v :: b, h => by
    obtain ⟨h1, h2⟩ := PlessC.get h.2
    refine ⟨by simp [h1], fun i u hi => ?_⟩
    cases i with
    | zero => cases hi; exact ⟨q, rfl, h.1⟩
    | succ i => exact h2 i u (by simpa using hi)
  | [], _ :: _, h => h.elim
  | _ :: _, [], h => h.elim
theorem PCall.lessC {f : FuncId} {args : List PV} {a b : List PV} (hc : PCall P f args (.agg a)) (h : PlessC a b) : PCall P f args (.agg b) := by
  intro M0 w cargs hM hg ha
  obtain ⟨h1, h2⟩ := hc M0 w cargs hM hg ha
  refine ⟨h1, h2.mono fun e w' he => ?_⟩
  obtain ⟨v', rfl, hv, hfr⟩ := he
  refine ⟨v', rfl, ?_, hfr⟩
  obtain ⟨g1, g2⟩ := h.get
  cases hv with
  | agg hn hs hr =>
    refine .agg (by omega) (fun c hcm => ?_) fun i c hi => ?_
    · obtain ⟨i, hi⟩ := List.getElem?_of_mem hcm
      obtain ⟨q, hq, hp⟩ := g2 i c hi
      exact hp.cell (hs q (List.mem_of_getElem? hq))
    · obtain ⟨q, hq, hp⟩ := g2 i c hi
      exact hp.rep (hr i q hq)
theorem pless2_refl (v : PV) : Pless2 v v := .inl (.inl rfl)
theorem pless2_full (sz : Nat) (xs : List PV) : Pless2 (.slice sz xs true) (.slice sz xs false) := .inr ⟨sz, xs, rfl, rfl⟩
end Abs
end Go.Proofs.YtdellinghbppgaaGreatDoor

namespace Go.Proofs.YtdellinghbppgaaGreatDoor
namespace Abs
variable {P : Program}
/-- the types of a struct's fields -/
def structT (P : Program) (t : TypeId) : Option (List TypeId) :=
  match P.underlying t with
  | some (.struct fs) => some (fs.toList.map (·.type))
  | _ => none
def intT (P : Program) (t : TypeId) : Option IntKind :=
  match P.underlying t with
  | some (.int k) => some k
  | _ => none
def listT (P : Program) (t : TypeId) : Option (TypeId × Nat × Bool) :=
  match P.underlying t with
  | some (.slice e) => some (e, P.cellsOf e, isAggT P e == some true)
  | _ => none
def arrT (P : Program) (t : TypeId) : Option (Nat × TypeId) :=
  match P.underlying t with
  | some (.array m e) => some (m, e)
  | _ => none
def isStrT (P : Program) (t : TypeId) : Bool :=
  match P.underlying t with
  | some .string => true
  | _ => false
def isBoolT (P : Program) (t : TypeId) : Bool :=
  match P.underlying t with
  | some .bool => true
  | _ => false
/-- cells of values of these types, one behind the other -/
def PVall (P : Program) (n : Nat) : List TypeId → List PV → Prop
  | [], cs => cs = []
  | t :: ts, cs => ∃ a b, cs = a ++ b ∧ PVok P n t a ∧ PVall P n ts b
theorem pv_all {n : Nat} : ∀ {fs : List Field} {cs : List PV}, PVfields (PVok P n) fs cs → PVall P n (fs.map (·.type)) cs
  | [], _, h => h
  | _ :: _, _, ⟨a, b, h1, h2, h3⟩ => ⟨a, b, h1, h2, pv_all h3⟩
theorem pv_struct {n : Nat} {t : TypeId} {ts : List TypeId} {cs : List PV} (ht : structT P t = some ts) (h : PVok P (n + 1) t cs) : PVall P n ts cs := by
  unfold structT at ht
  unfold PVok at h
  split at ht
  · rename_i fs hu
    rw [hu] at h
    cases ht
    exact pv_all h
  · cases ht
theorem pv_int {n : Nat} {t : TypeId} {k : IntKind} {cs : List PV} (ht : intT P t = some k) (h : PVok P (n + 1) t cs) : ∃ m, cs = [.int k m] ∧ k.min ≤ m ∧ m ≤ k.max := by
  unfold intT at ht
  unfold PVok at h
  split at ht
  · rename_i k' hu
    rw [hu] at h
    cases ht
    obtain ⟨m, h1, h2⟩ := h
    exact ⟨m, h1, by simpa [Lit.wf] using h2⟩
  · cases ht
theorem pv_str {n : Nat} {t : TypeId} {cs : List PV} (ht : isStrT P t = true) (h : PVok P (n + 1) t cs) : ∃ s : ByteArray, cs = [.str s] ∧ s.size ≤ maxLen := by
  unfold isStrT at ht
  unfold PVok at h
  split at ht
  · rename_i hu
    rw [hu] at h
    exact h
  · cases ht
theorem pv_bool {n : Nat} {t : TypeId} {cs : List PV} (ht : isBoolT P t = true) (h : PVok P (n + 1) t cs) : ∃ b, cs = [.bool b] := by
  unfold isBoolT at ht
  unfold PVok at h
  split at ht
  · rename_i hu
    rw [hu] at h
    exact h
  · cases ht
theorem pv_list {n : Nat} {t e : TypeId} {z : Nat} {g : Bool} {cs : List PV} (ht : listT P t = some (e, z, g)) (h : PVok P (n + 1) t cs) :
    ∃ xs, cs = [.slice z xs false] ∧ xs.length ≤ maxLen ∧ ∀ x, x ∈ xs → ∃ es, x = ofCells g es ∧ PVok P n e es := by
  unfold listT at ht
  unfold PVok at h
  split at ht
  · rename_i e' hu
    rw [hu] at h
    cases ht
    exact h
  · cases ht
theorem pv_arr {n : Nat} {t e : TypeId} {m : Nat} {cs : List PV} (ht : arrT P t = some (m, e)) (h : PVok P (n + 1) t cs) : PVarr (PVok P n e) m cs := by
  unfold arrT at ht
  unfold PVok at h
  split at ht
  · rename_i m' e' hu
    rw [hu] at h
    cases ht
    exact h
  · cases ht
theorem arr_ints {n : Nat} {t : TypeId} {k : IntKind} (ht : intT P t = some k) : ∀ {m : Nat} {cs : List PV}, PVarr (PVok P (n + 1) t) m cs → ∃ l : List Int, l.length = m ∧ cs = l.map (PV.int k) ∧ ∀ x, x ∈ l → k.min ≤ x ∧ x ≤ k.max
  | 0, _, h => ⟨[], rfl, h, fun _ h => by cases h⟩
  | m + 1, _, ⟨a, b, h1, h2, h3⟩ => by
    obtain ⟨l, e1, e2, e3⟩ := arr_ints ht h3
    obtain ⟨x, e4, e5⟩ := pv_int ht h2
    refine ⟨x :: l, by simp [e1], by simp [h1, e4, e2], fun y hy => ?_⟩
    rcases List.mem_cons.1 hy with rfl | hy
    · exact e5
    · exact e3 y hy
theorem list_of {α : Type} (f : α → PV) : ∀ {xs : List PV}, (∀ x, x ∈ xs → ∃ a, x = f a) → ∃ l : List α, xs = l.map f
  | [], _ => ⟨[], rfl⟩
  | x :: r, h => by
    obtain ⟨a, rfl⟩ := h x (by simp)
    obtain ⟨l, rfl⟩ := list_of f (xs := r) fun y hy => h y (by simp [hy])
    exact ⟨a :: l, rfl⟩
end Abs
end Go.Proofs.YtdellinghbppgaaGreatDoor

namespace Go.Proofs.YtdellinghbppgaaGreatDoor
namespace Abs
variable {P : Program} {H : Hints} {Q : Cont} {M0 : Nat → Prop}

theorem row_pure {S : Mem} (hS : HOk P M0 S) {id sz b : Nat} {xs : List PV} (hid : S.h[id]? = some (.row sz (xs.map .p))) (hm : S.m.getD id none = some b) :
    ∃ C T, S.w.heap[b]? = some (.cells C T (0, 0)) ∧ xs.length * sz ≤ C.size ∧ (∀ x, x ∈ xs → x.cells.length = sz ∧ ∀ c, c ∈ x.cells → c.isCell = true) ∧
      (∀ k, k < xs.length * sz → S.w.cell? ⟨b, 0 + k, none⟩ = some (C.getD k undef)) ∧ ∀ (i j : Nat) (x c : PV), xs[i]? = some x → x.cells[j]? = some c → RepP (Avoid M0 S.m) S.w (C.getD (i * sz + j) undef) c := by
  obtain ⟨C, T, hb, hsize, hel⟩ := row_block hS hid hm
  rw [List.length_map] at hsize
  have helem : ∀ (i : Nat) (q : PV), xs[i]? = some q → (q.cells.length = sz ∧ ∀ c, c ∈ q.cells → c.isCell = true) ∧ ∀ (j : Nat) (c : PV), q.cells[j]? = some c → RepP (Avoid M0 S.m) S.w (C.getD (i * sz + j) undef) c := by
    intro i q hi
    obtain ⟨cs, h1, h2, h3⟩ := hel i (.p q) (by rw [List.getElem?_map, hi]; rfl)
    obtain ⟨h4, h5⟩ := frzN_cells (n := 0) (h := S.h) (frzN_p 0 S.h q) h1
    have key : ∀ (j : Nat) (c : PV), q.cells[j]? = some c → cs[j]? = some (.p c) := by
      intro j c hj
      obtain ⟨x, m, h6, h7, h8⟩ := h5 j c hj
      obtain rfl : m = 0 := by omega
      cases x <;> first | (rw [frzN_p] at h8; cases h8; exact h6) | cases h8
    refine ⟨⟨by omega, fun c hc => ?_⟩, fun j c hj => ?_⟩
    · obtain ⟨j, hj⟩ := List.getElem?_of_mem hc
      have := (h3 j (.p c) (key j c hj)).1
      exact this
    · exact (h3 j (.p c) (key j c hj)).2
  refine ⟨C, T, hb, hsize, fun x hx => ?_, fun k hk => ?_, fun i j x c hx hj => (helem i x hx).2 j c hj⟩
  · obtain ⟨i, hi⟩ := List.getElem?_of_mem hx
    exact (helem i x hi).1
  · rw [Nat.zero_add]
    exact cell_block hb k (by omega)

/-- a whole row behind the kept objects, and the list that it holds -/
def frozenAt (h : Heap) (n : Nat) (a v : AV) : Prop := ∃ id sz xs, n ≤ id ∧ a = .slice id xs.length 0 xs.length ∧ h[id]? = some (.row sz (xs.map .p)) ∧ v = .p (.slice sz xs false)

theorem frozen_rep {S : Mem} (hS : HOk P M0 S) {l : Nat} {u : Value} {a v : AV} (hr : Rep M0 S u a) (hf : frozenAt S.h l a v) : Rep M0 (S.cut l) u v := by
  obtain ⟨id, sz, xs, hl, rfl, hid, rfl⟩ := hf
  obtain ⟨⟨a0, n0, c0, rfl⟩, hlive⟩ := hr
  show RepP (Avoid M0 (S.m.take l)) S.w (.slice a0 n0 c0) (.slice sz xs false)
  rcases hlive with hd | ⟨sz', xs', hid', _, hX⟩
  · rw [hid] at hd; cases hd
  rw [hid] at hid'
  cases hid'
  rcases hX (by simp) with ⟨h0, _, _, a, cap, e⟩ | ⟨b, cap, T', n', hm, e, ⟨h1, h2⟩, _, _⟩ | ⟨_, e, h0⟩
  · have : xs = [] := List.length_eq_zero_iff.1 h0
    subst this
    cases e
    exact .empty (by simp)
  · cases e
    obtain ⟨C, T, hb, h3, h4, h5, h6⟩ := row_pure hS hid hm
    have hav : ¬ Avoid M0 (S.m.take l) b := by
      have hg := getD_some_get hm
      rintro (hb0 | hb0)
      · exact (hS.m0 b hb0).2 (List.mem_of_getElem? hg)
      · obtain ⟨j, hj⟩ := List.getElem?_of_mem hb0
        rw [List.getElem?_take] at hj
        split at hj
        · have := hS.inj j id b hj hg
          omega
        · cases hj
    have := pslice_sub (M := Avoid M0 (S.m.take l)) (w := S.w) (b := b) (off := 0) (sz := sz) (l := 0) (r := xs.length) (xs := xs) (fun k => C.getD k undef) (by omega) (by omega) h4 (fun _ => hav) h5
      (fun i j x c hx hj => RepP.less (h6 i j x c hx hj) fun b hb => avoid_cut (S := S) (l := l) hb) (cap := c0) (full := false) (by omega) (by simp)
    simpa using this
  · have : xs = [] := List.length_eq_zero_iff.1 h0
    subst this
    cases e
    exact .empty (by simp)

theorem weak_cutf {A : AAct} {T : Nat → AV} (l : Nat) (hl : A.bs ≤ l) (hlen : l ≤ A.h.length) (ht : ∀ t, (T t = A.tmps t ∧ below l (A.tmps t)) ∨ T t = .undef ∨ frozenAt A.h l (A.tmps t) (T t))
    (ho : ∀ (id : Nat) (o : AObj), id < l → A.h[id]? = some o → objBelow l o) (hd : ∀ x, x ∈ A.df → defBelow l x) : Weak P A { A with tmps := T, h := A.h.take l } :=
  ⟨rfl, rfl, fun M0 S0 b cs0 m a w hr => ⟨m.take l, hr.size, fun t => by
      show Rep M0 (Mem.cut ⟨m, A.h, w⟩ l) _ (T t)
      rcases ht t with ⟨e, hb⟩ | e | e
      · rw [e]; exact Rep.cut (hr.tmps t) hb
      · rw [e]; exact trivial
      · exact frozen_rep (S := ⟨m, A.h, w⟩) hr.hok (hr.tmps t) e,
    hok_cut (S := ⟨m, A.h, w⟩) hr.hok ho,
    { fr := hr.ev.fr
      sub := fun x hx => hr.ev.sub x (List.mem_of_mem_take hx)
      obj := fun id o hid ho' => by
        obtain ⟨o', h1, h2⟩ := hr.ev.obj id o hid ho'
        have hidl : id < l := by have : id < A.bs := hid; omega
        refine ⟨o', ?_, ?_⟩
        · exact (cut_get (S := ⟨m, A.h, w⟩) hidl).trans h1
        · have := cut_m (S := ⟨m, A.h, w⟩) hidl
          show ObjEv _ _ ((Mem.cut ⟨m, A.h, w⟩ l).m.getD id none) _
          rw [this]; exact h2 },
    ⟨by show A.bs ≤ (A.h.take l).length; simp; omega, hr.le.2⟩, defs_cut (S := ⟨m, A.h, w⟩) hr.df hd, by
      have := hr.rc
      cases hc : A.rc <;> rw [hc] at this <;> first | exact this | skip
      obtain ⟨h1, h2, v', cs1, h3, h4⟩ := this
      exact ⟨h1, h2, v', cs1, h3, RepP.less h4 fun b hb => avoid_cut (S := ⟨m, A.h, w⟩) (l := l) hb⟩⟩⟩

/-- what is asked at a head, where rows become lists -/
def headOkF (bs : Nat) (df : List ADef) (T : Nat → AV) (h0 : Heap) (l : List (Nat × AV)) (h : Heap) : Prop :=
  bs ≤ h.length ∧ h0.take h.length = h ∧ (∀ p, p ∈ l → (T p.1 = p.2 ∧ below h.length p.2) ∨ frozenAt h0 h.length (T p.1) p.2) ∧ (∀ o, o ∈ h → objBelow h.length o) ∧ ∀ x, x ∈ df → defBelow h.length x
theorem weak_headF {A B : AAct} {live : List Nat} {l : List (Nat × AV)} {h : Heap} (hn : B.n = A.n) (hb : B.bs = A.bs) (hr : B.rc = A.rc) (hd : B.df = A.df)
    (hk : headOkF A.bs A.df B.tmps B.h (keepA A.tmps live l) h) : Weak P B (headI A live l h) := by
  obtain ⟨h1, h2, h3, h4, h5⟩ := hk
  have hlen : h.length ≤ B.h.length := by
    have : (B.h.take h.length).length = h.length := by rw [h2]
    simp only [List.length_take] at this
    omega
  have e : headI A live l h = { B with tmps := keepT (keepA A.tmps live l), h := B.h.take h.length } := by
    unfold headI
    rw [h2]
    cases A; cases B
    simp only at hn hb hr hd
    subst hn hb hr hd
    rfl
  rw [e]
  refine weak_cutf h.length (by rw [hb]; exact h1) hlen (fun t => ?_) (fun id o hid ho => ?_) (by rw [hd]; exact h5)
  · rcases keepT_at (keepA A.tmps live l) t with h6 | h6
    · exact .inr (.inl h6)
    · rcases h3 _ h6 with h7 | h7
      · exact .inl ⟨h7.1.symm, by rw [h7.1]; exact h7.2⟩
      · exact .inr (.inr h7)
  · refine h4 o ?_
    rw [← h2]
    exact List.mem_of_getElem? (i := id) (by rw [List.getElem?_take, if_pos hid]; exact ho)
theorem WQ_headF {σ : Type} {V : σ → Prop} {μ : σ → Nat} {M : σ → List (Nat × AV)} {hp : σ → Heap} {live : List Nat} {s : σ} {A B : AAct} (s' : σ) (h1 : V s') (h2 : μ s' < μ s)
    (h3 : headOkF A.bs A.df B.tmps B.h (keepA A.tmps live (M s')) (hp s')) (hn : B.n = A.n := by rfl) (hb : B.bs = A.bs := by rfl) (hr : B.rc = A.rc := by rfl) (hd : B.df = A.df := by rfl) :
    @WQ ⟨seqK (headK P V (fun s => headI A live (M s) (hp s)) μ s) Q⟩ .normal B := ⟨s', h1, h2, weak_headF hn hb hr hd h3⟩
end Abs
end Go.Proofs.YtdellinghbppgaaGreatDoor
