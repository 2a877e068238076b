/-
  LAWS: stores into the call's own memory, and its growth.
-/
import Derived.Test.YtdellinghbppgaaGreatDoorAbsMem
namespace Go.Proofs.YtdellinghbppgaaGreatDoor
namespace Abs
variable {P : Program}

theorem setRow_self (w : World) (b : Nat) (C : Array Value) (T : TypeId) (fr : Nat × Nat) (hb : w.heap[b]? = some (.cells C T fr)) : w.setRow b C = w := by
  have hv : w.heap[b]'((Array.getElem?_eq_some_iff.1 hb).1) = .cells C T fr := (Array.getElem?_eq_some_iff.1 hb).2
  unfold World.setRow
  cases w with
  | mk heap tape drawn os output =>
    congr 1
    apply Array.ext
    · simp
    · intro k h1 h2
      simp only [Array.getElem_modify]
      split
      · rename_i hk; subst hk; simp at hv; simp [hv]
      · rfl

def ovr (C : Array Value) (o : Nat) : List Value → Array Value
  | [] => C
  | v :: r => ovr (C.setIfInBounds o v) (o + 1) r
theorem size_ovr : ∀ (vs : List Value) (C : Array Value) (o : Nat), (ovr C o vs).size = C.size
  | [], _, _ => rfl
  | v :: r, C, o => by rw [ovr, size_ovr r]; simp
theorem getD_ovr : ∀ (vs : List Value) (C : Array Value) (o k : Nat), o + vs.length ≤ C.size →
    (ovr C o vs).getD k undef = if o ≤ k ∧ k < o + vs.length then vs.getD (k - o) undef else C.getD k undef
  | [], C, o, k, _ => by
    have : ¬ (o ≤ k ∧ k < o + ([] : List Value).length) := by simp
    rw [if_neg this, ovr]
  | v :: r, C, o, k, h => by
    have h' : o + (r.length + 1) ≤ C.size := by simpa using h
    rw [ovr, getD_ovr r (C.setIfInBounds o v) (o + 1) k (by simp; omega)]
    by_cases h1 : o + 1 ≤ k ∧ k < o + 1 + r.length
    · rw [if_pos h1, if_pos (by simp; omega), show k - o = (k - (o + 1)) + 1 by omega]
      simp
    · rw [if_neg h1]
      by_cases h2 : k = o
      · subst h2
        rw [if_pos (by simp)]
        simp [show k < C.size by omega]
      · rw [if_neg (by simp; omega)]
        simp [Ne.symm h2]

theorem run_storeCellsT (b : Nat) (T : TypeId) : ∀ (vs : List Value) (off i : Nat) (C : Array Value) (w : World), w.heap[b]? = some (.cells C T (0, 0)) → off + i + vs.length ≤ C.size →
    (∀ v ∈ vs, v.oneCell' = true) → (storeCells ⟨b, off, none⟩ vs i).run P w = .ok () (w.setRow b (ovr C (off + i) vs))
  | [], off, i, C, w, hb, _, _ => by
    rw [ovr, setRow_self w b C T _ hb]
    rfl
  | v :: r, off, i, C, w, hb, hl, h1 => by
    have hl' : off + i + (r.length + 1) ≤ C.size := by simpa using hl
    have hcell : w.cell? ⟨b, off + i, none⟩ = some C[off + i] := by simp [World.cell?, hb, show off + i < C.size by omega]
    have hfro : w.frozen? ⟨b, off + i, none⟩ = false := by simp [World.frozen?, hb]
    have hst : (store ((⟨b, off, none⟩ : Addr).add i) v).run P w = .ok () (w.setRow b (C.setIfInBounds (off + i) v)) := by
      rw [add_none, run_store P w _ v _ (h1 v (by simp)), hcell]
      simp [hfro, setCell_eq_setRow w b (off + i) C T (0, 0) v hb]
    have ih := run_storeCellsT b T r off (i + 1) (C.setIfInBounds (off + i) v) (w.setRow b (C.setIfInBounds (off + i) v)) (setRow_heap w b C _ T _ hb) (by simp; omega) (fun x hx => h1 x (by simp [hx]))
    simp only [storeCells, Sem.run_bind, hst, Result.andThen_ok, ih, setRow_setRow, ovr, Nat.add_assoc]

/-! ### an object with other elements, in its block -/
def Mem.set (S : Mem) (id : Nat) (o : AObj) (b : Nat) (C : Array Value) : Mem := ⟨S.m, S.h.set id o, S.w.setRow b C⟩

theorem own_of_getD {m : List (Option Nat)} {id b : Nat} (h : m.getD id none = some b) : Own m b ∧ m[id]? = some (some b) := by
  rw [List.getD_eq_getElem?_getD] at h
  cases hq : m[id]? with
  | none => simp [hq] at h
  | some z => simp [hq] at h; subst h; exact ⟨List.mem_of_getElem? hq, rfl⟩

theorem shape_setRow (w : World) (b : Nat) (C C' : Array Value) (T : TypeId) (fr : Nat × Nat) (hb : w.heap[b]? = some (.cells C T fr)) (hC : C'.size = C.size) (x : Nat) :
    (w.setRow b C').shape? x = w.shape? x := by
  unfold World.shape?
  by_cases h : x = b
  · subst h
    rw [setRow_heap w x C C' T fr hb, hb]
    simp [hC]
  · rw [setRow_other w b x C' h]

theorem Ev.set (base : Nat) {S : Mem} {id sz b : Nat} {xs xs' : List AV} {C C' : Array Value} {T : TypeId} (hid : S.h[id]? = some (.row sz xs)) (hm : S.m.getD id none = some b)
    (hb : S.w.heap[b]? = some (.cells C T (0, 0))) (hC : C'.size = C.size) (hlen : xs.length ≤ xs'.length) : Ev base S (S.set id (.row sz xs') b C') where
  fr := ⟨rfl, rfl, rfl, by simp [Mem.set],
    fun x _ hn => setRow_other _ _ _ _ (fun e => hn (e ▸ (own_of_getD hm).1)),
    fun x _ => shape_setRow _ _ _ _ _ _ hb hC x⟩
  sub := fun _ h => .inl h
  obj := fun j o hj ho => by
    by_cases h : j = id
    · subst h
      have : o = .row sz xs := by rw [hid] at ho; exact (Option.some.inj ho).symm
      subst this
      refine ⟨.row sz xs', by simp [Mem.set, (List.getElem?_eq_some_iff.1 hid).1], .inr (.inl ⟨sz, xs, xs', rfl, rfl, ?_⟩)⟩
      rcases Nat.lt_or_ge xs.length xs'.length with h' | h'
      · exact .inr h'
      · exact .inl ⟨by omega, rfl⟩
    · exact ⟨o, by simp [Mem.set, List.getElem?_set_ne (Ne.symm h), ho], ObjEv.refl _ _⟩

def ElemsOk (M0 : Nat → Prop) (S : Mem) (sz : Nat) (C : Array Value) (xs : List AV) : Prop :=
  ∀ (i : Nat) (x : AV), xs[i]? = some x → ∃ cs, x.cells = some cs ∧ cs.length = sz ∧ ∀ (j : Nat) (c : AV), cs[j]? = some c → c.isCell = true ∧ RepS M0 S (C.getD (i * sz + j) undef) c
theorem ElemsOk.keep {M0 : Nat → Prop} {S S' : Mem} (e : Ev S.h.length S S') {sz : Nat} {C : Array Value} {xs : List AV} (h : ElemsOk M0 S sz C xs) : ElemsOk M0 S' sz C xs :=
  fun i x hx => let ⟨cs, h1, h2, h3⟩ := h i x hx; ⟨cs, h1, h2, fun j c hc => ⟨(h3 j c hc).1, e.keepS (h3 j c hc).2⟩⟩

theorem HOk.set {M0 : Nat → Prop} {S : Mem} (hS : HOk P M0 S) {id sz b : Nat} {xs xs' : List AV} {C C' : Array Value} {T : TypeId} (hid : S.h[id]? = some (.row sz xs)) (hm : S.m.getD id none = some b)
    (hb : S.w.heap[b]? = some (.cells C T (0, 0))) (hC : C'.size = C.size) (hlen : xs.length ≤ xs'.length) (hroom : xs'.length * sz ≤ C'.size) (hel : ElemsOk M0 S sz C' xs') :
    HOk P M0 (S.set id (.row sz xs') b C') := by
  have e := Ev.set S.h.length hid hm hb hC hlen
  refine ⟨by simp [Mem.set, hS.len], fun x hx => ?_, fun x hx => ?_, hS.inj, fun j o hj => ?_, e.glob hS.gl⟩
  · have := hS.lt x hx
    simpa [Mem.set] using this
  · obtain ⟨h1, h2⟩ := hS.m0 x hx
    exact ⟨by simpa [Mem.set] using h1, h2⟩
  · by_cases h : j = id
    · subst h
      have : o = .row sz xs' := by
        have : (S.h.set j (.row sz xs'))[j]? = some o := hj
        simp [(List.getElem?_eq_some_iff.1 hid).1] at this
        exact this.symm
      subst this
      refine .inr ⟨b, T, C', hm, setRow_heap _ _ _ _ _ _ hb, hroom, hel.keep e⟩
    · have ho : S.h[j]? = some o := by
        have : (S.h.set id (.row sz xs'))[j]? = some o := hj
        rwa [List.getElem?_set_ne (Ne.symm h)] at this
      refine (hS.obj j o ho).keep e fun x hx => setRow_other _ _ _ _ fun hxb => h ?_
      subst hxb
      exact hS.inj j id x (own_of_getD hx).2 (own_of_getD hm).2

/-! ### an object moved to a new, larger block -/
def Mem.regrow (S : Mem) (id : Nat) (o : AObj) (ob : Obj) : Mem := ⟨S.m.set id (some S.w.heap.size), S.h.set id o, S.w.alloc ob⟩

theorem own_set {m : List (Option Nat)} {id x b : Nat} (h : Own (m.set id (some x)) b) : Own m b ∨ b = x := by
  unfold Own at h ⊢
  rcases List.mem_or_eq_of_mem_set h with h | h
  · exact .inl h
  · exact .inr (by simpa using h)

theorem Ev.regrow (base : Nat) {S : Mem} {id sz : Nat} {xs xs' : List AV} {ob : Obj} (hid : S.h[id]? = some (.row sz xs)) (hlen : xs.length < xs'.length) :
    Ev base S (S.regrow id (.row sz xs') ob) where
  fr := Fr.alloc _ _ _
  sub := fun b h => by
    rcases own_set h with h | rfl
    · exact .inl h
    · exact .inr (Nat.le_refl _)
  obj := fun j o hj ho => by
    by_cases h : j = id
    · subst h
      have : o = .row sz xs := by rw [hid] at ho; exact (Option.some.inj ho).symm
      subst this
      exact ⟨.row sz xs', by simp [Mem.regrow, (List.getElem?_eq_some_iff.1 hid).1], .inr (.inl ⟨sz, xs, xs', rfl, rfl, .inr hlen⟩)⟩
    · refine ⟨o, by simp [Mem.regrow, List.getElem?_set_ne (Ne.symm h), ho], ?_⟩
      have : (S.regrow id (.row sz xs') ob).m.getD j none = S.m.getD j none := by
        simp [Mem.regrow, List.getD_eq_getElem?_getD, List.getElem?_set_ne (Ne.symm h)]
      rw [this]
      exact ObjEv.refl _ _

theorem HOk.regrow {M0 : Nat → Prop} {S : Mem} (hS : HOk P M0 S) {id sz : Nat} {xs xs' : List AV} {C : Array Value} {T : TypeId} (hid : S.h[id]? = some (.row sz xs))
    (hlen : xs.length < xs'.length) (hroom : xs'.length * sz ≤ C.size) (hel : ElemsOk M0 S sz C xs') : HOk P M0 (S.regrow id (.row sz xs') (.cells C T)) := by
  have e := Ev.regrow S.h.length (ob := .cells C T) hid hlen
  have hidlt := (List.getElem?_eq_some_iff.1 hid).1
  have hml := hS.len
  refine ⟨by simp [Mem.regrow, hS.len], fun x hx => ?_, fun x hx => ?_, fun i j x hi hj => ?_, fun j o hj => ?_, e.glob hS.gl⟩
  · rcases own_set hx with h | rfl
    · have := hS.lt x h; simp [Mem.regrow]; omega
    · simp [Mem.regrow]
  · obtain ⟨h1, h2⟩ := hS.m0 x hx
    refine ⟨by simp [Mem.regrow]; omega, fun hn => ?_⟩
    rcases own_set hn with h | rfl
    · exact h2 h
    · omega
  · have key : ∀ k : Nat, (S.m.set id (some S.w.heap.size))[k]? = some (some x) → (k ≠ id ∧ S.m[k]? = some (some x) ∧ x < S.w.heap.size) ∨ (k = id ∧ x = S.w.heap.size) := by
      intro k hk
      by_cases h : k = id
      · subst h
        rw [List.getElem?_set_self (by omega)] at hk
        exact .inr ⟨rfl, by simpa using hk.symm⟩
      · rw [List.getElem?_set_ne (Ne.symm h)] at hk
        exact .inl ⟨h, hk, hS.lt x (List.mem_of_getElem? hk)⟩
    rcases key i hi with ⟨h1, h2, h3⟩ | ⟨h1, h2⟩ <;> rcases key j hj with ⟨h4, h5, h6⟩ | ⟨h4, h5⟩
    · exact hS.inj i j x h2 h5
    · omega
    · omega
    · omega
  · by_cases h : j = id
    · subst h
      have : o = .row sz xs' := by
        have : (S.h.set j (.row sz xs'))[j]? = some o := hj
        simp [hidlt] at this
        exact this.symm
      subst this
      refine .inr ⟨S.w.heap.size, T, C, ?_, heap_alloc_eq _ _, hroom, hel.keep e⟩
      simp [Mem.regrow, List.getD_eq_getElem?_getD, List.getElem?_set_self (show j < S.m.length by omega)]
    · have ho : S.h[j]? = some o := by
        have : (S.h.set id (.row sz xs'))[j]? = some o := hj
        rwa [List.getElem?_set_ne (Ne.symm h)] at this
      have hm : (S.regrow id (.row sz xs') (.cells C T)).m.getD j none = S.m.getD j none := by
        simp [Mem.regrow, List.getD_eq_getElem?_getD, List.getElem?_set_ne (Ne.symm h)]
      rw [hm]
      exact (hS.obj j o ho).keep e fun x hx => heap_alloc_lt _ _ _ (hS.lt x (own_of_getD hx).1)

end Abs
end Go.Proofs.YtdellinghbppgaaGreatDoor
