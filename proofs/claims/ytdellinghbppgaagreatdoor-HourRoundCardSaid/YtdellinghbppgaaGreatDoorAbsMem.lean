/-
  LAWS: cells of values; new objects, stores, growth of the call's own memory.
-/
import Derived.Test.YtdellinghbppgaaGreatDoorAbsRep
namespace Go.Proofs.YtdellinghbppgaaGreatDoor
namespace Abs

/-- the cells of a value, as far as they are known -/
def CellsRep (M0 : Nat → Prop) (S : Mem) (g : Nat → Value) (cs : List AV) : Prop :=
  ∀ (j : Nat) (c : AV), cs[j]? = some c → c.isCell = true ∧ RepS M0 S (g j) c

theorem rep_of_S {M0 : Nat → Prop} {S : Mem} {v : Value} {c : AV} (hc : c.isCell = true) (h : RepS M0 S v c) : Rep M0 S v c := by
  cases c with
  | agg cs => simp [AV.isCell] at hc
  | tuple cs => simp [AV.isCell] at hc
  | undef => simp [AV.isCell] at hc
  | _ => exact h
theorem repA_of_S {M0 : Nat → Prop} {S : Mem} {v : Value} {c : AV} (hc : c.isCell = true) (h : RepS M0 S v c) : RepA M0 S v c := by
  cases c with
  | agg cs => simp [AV.isCell] at hc
  | tuple cs => simp [AV.isCell] at hc
  | undef => simp [AV.isCell] at hc
  | _ => exact h
theorem repS_of_rep {M0 : Nat → Prop} {S : Mem} {v : Value} {c : AV} (hc : c.isCell = true) (h : Rep M0 S v c) : RepS M0 S v c := by
  cases c with
  | agg cs => simp [AV.isCell] at hc
  | tuple cs => simp [AV.isCell] at hc
  | undef => simp [AV.isCell] at hc
  | _ => exact h
theorem rep_of_A {M0 : Nat → Prop} {S : Mem} {v : Value} {c : AV} (h : RepA M0 S v c) : Rep M0 S v c := by
  cases c with
  | tuple cs => exact False.elim h
  | _ => exact h

theorem oneCell_of_repS {M0 : Nat → Prop} {S : Mem} {v : Value} {c : AV} (hc : c.isCell = true) (h : RepS M0 S v c) : v.oneCell' = true := by
  cases c with
  | p q =>
    have h' : RepP (Avoid M0 S.m) S.w v q := h
    cases h' with
    | agg => simp [AV.isCell, PV.isCell] at hc
    | tuple => simp [AV.isCell, PV.isCell] at hc
    | _ => rfl
  | ptr id ver i o => obtain ⟨⟨a, rfl⟩, _⟩ := h; rfl
  | slice id ver off len => obtain ⟨⟨a, _, _, rfl⟩, _⟩ := h; rfl
  | ref k id => obtain ⟨⟨a, rfl⟩, _⟩ := h; cases k <;> rfl
  | func fn f c => obtain ⟨F, C, rfl, _⟩ := h; rfl
  | agg cs => simp [AV.isCell] at hc
  | tuple cs => simp [AV.isCell] at hc
  | undef => simp [AV.isCell] at hc

theorem getD_lt {α : Type} (C : Array α) (i : Nat) (d : α) (h : i < C.size) : C.getD i d = C[i] := by simp [Array.getD, h]
theorem getD_some {α : Type} {C : Array α} {i : Nat} {d x : α} (h : C[i]? = some x) : C.getD i d = x := by
  obtain ⟨h1, h2⟩ := Array.getElem?_eq_some_iff.1 h
  rw [getD_lt _ _ _ h1, h2]

theorem rep_cells {M0 : Nat → Prop} {S : Mem} {v : Value} {x : AV} {cs : List AV} (h : Rep M0 S v x) (hx : x.cells = some cs) :
    v.cells.size = cs.length ∧ CellsRep M0 S (fun j => v.cells.getD j undef) cs := by
  have one : ∀ {c : AV}, c.isCell = true → RepS M0 S v c → v.cells = #[v] := by
    intro c hc hr
    have := oneCell_of_repS hc hr
    cases v <;> first | rfl | simp [Value.oneCell'] at this
  have single : ∀ {c : AV}, c.isCell = true → RepS M0 S v c → v.cells.size = [c].length ∧ CellsRep M0 S (fun j => v.cells.getD j undef) [c] := by
    intro c hc hr
    rw [one hc hr]
    refine ⟨rfl, fun j d hj => ?_⟩
    cases j with
    | zero => simp at hj; subst hj; exact ⟨hc, hr⟩
    | succ j => simp at hj
  cases x with
  | p q =>
    cases q with
    | agg l =>
      simp [AV.cells, PV.cells] at hx
      subst hx
      have h' : RepP (Avoid M0 S.m) S.w v (.agg l) := h
      cases h' with
      | agg hn hs hr =>
        refine ⟨by simpa [Value.cells] using hn, fun j c hj => ?_⟩
        simp only [List.getElem?_map, Option.map_eq_some_iff] at hj
        obtain ⟨q, hq, rfl⟩ := hj
        exact ⟨hs q (List.mem_of_getElem? hq), hr j q hq⟩
    | tuple l => simp [AV.cells] at hx
    | _ => (simp [AV.cells, PV.cells] at hx; subst hx; exact single rfl h)
  | agg l =>
    simp [AV.cells] at hx
    subst hx
    obtain ⟨C, rfl, h1, h2, h3⟩ := h
    exact ⟨h2, fun j c hj => ⟨h1 c (List.mem_of_getElem? hj), h3 j c hj⟩⟩
  | tuple l => simp [AV.cells] at hx
  | undef => simp [AV.cells] at hx
  | _ => (simp [AV.cells] at hx; subst hx; exact single rfl h)

theorem pures_some : ∀ {cs : List AV} {l : List PV}, pures cs = some l → cs = l.map .p
  | [], l, h => by simp [pures] at h; subst h; rfl
  | c :: r, l, h => by
    cases c with
    | p v =>
      simp only [pures] at h
      split at h
      · rename_i l' hl
        cases h
        rw [pures_some hl]; rfl
      · cases h
    | _ => simp [pures] at h

theorem mkAgg_rep {M0 : Nat → Prop} {S : Mem} {C : Array Value} {cs : List AV} (hn : C.size = cs.length) (h : CellsRep M0 S (fun j => C.getD j undef) cs) : RepA M0 S (.agg C) (mkAgg cs) := by
  unfold mkAgg
  cases hp : pures cs with
  | some l =>
    have := pures_some hp
    subst this
    refine .agg (by simpa using hn) (fun c hc => ?_) (fun i c hi => ?_)
    · obtain ⟨i, hi⟩ := List.getElem?_of_mem hc
      exact (h i (.p c) (by simp [hi])).1
    · exact (h i (.p c) (by simp [hi])).2
  | none => exact ⟨C, rfl, fun c hc => (let ⟨i, hi⟩ := List.getElem?_of_mem hc; (h i c hi).1), hn, fun i c hi => (h i c hi).2⟩

theorem mkTuple_rep {M0 : Nat → Prop} {S : Mem} {C : Array Value} {cs : List AV} (h : RepL (RepA M0 S) C cs) : Rep M0 S (.tuple C) (mkTuple cs) := by
  unfold mkTuple
  cases hp : pures cs with
  | some l =>
    have := pures_some hp
    subst this
    exact .tuple (by simpa using h.1) (fun i c hi => h.2 i (.p c) (by simp [hi]))
  | none => exact ⟨C, rfl, h⟩

theorem rep0_of_pv {M0 : Nat → Prop} {S : Mem} {v : Value} {q : PV} (h : RepP (Avoid M0 S.m) S.w v q) : Rep M0 S v (.p q) := h

/-! ### tables -/
variable {P : Program}
theorem run_isAggT {T : TypeId} {g : Bool} (h : isAggT P T = some g) (w : World) : (isAgg T).run P w = .ok g w := by
  unfold isAggT at h
  unfold isAgg
  cases hu : P.underlying T with
  | none => simp [hu] at h
  | some d =>
    rw [Sem.run_bind, run_underlying hu w]
    cases d <;> simp [hu] at h <;> subst h <;> rfl
theorem run_sizeT {T : TypeId} {n : Nat} (h : sizeT P T = some n) (w : World) : (sizeOf T).run P w = .ok n w := by
  unfold sizeT at h
  cases hi : P.info? T with
  | none => simp [hi] at h
  | some i => simp [hi] at h; subst h; simp [sizeOf, typeInfo, hi]
theorem run_bytesT {T : TypeId} {n : Nat} (h : bytesT P T = some n) (w : World) : ∃ i, (typeInfo T).run P w = .ok i w ∧ i.bytes = n := by
  unfold bytesT at h
  cases hi : P.info? T with
  | none => simp [hi] at h
  | some i => simp [hi] at h; exact ⟨i, by simp [typeInfo, hi], h⟩

theorem add_none (b o n : Nat) : (⟨b, o, none⟩ : Addr).add n = ⟨b, o + n, none⟩ := by
  unfold Addr.add
  split
  · rename_i h; subst h; rfl
  · rfl

theorem run_loadVarT {T : TypeId} {g : Bool} {n : Nat} (hg : isAggT P T = some g) (hn : sizeT P T = some n) (w : World) (b at_ : Nat) (f : Nat → Value)
    (hc : g = true → ∀ j, j < n → w.cell? ⟨b, at_ + j, none⟩ = some (f j)) (h1 : g = false → w.cell? ⟨b, at_, none⟩ = some (f 0)) :
    (loadVar T ⟨b, at_, none⟩).run P w = .ok (if g then .agg ((List.range n).map f).toArray else f 0) w := by
  unfold loadVar
  rw [Sem.run_bind, run_isAggT hg w]
  cases g with
  | true =>
    have := run_loadCells (P := P) w ⟨b, at_, none⟩ n f (fun j hj => by rw [add_none]; exact hc rfl j hj)
    simp [Sem.run_bind, run_sizeT hn w, this]
  | false => simp [h1 rfl]

theorem range_map_getD (f : Nat → Value) (n j : Nat) (h : j < n) : (((List.range n).map f).toArray).getD j undef = f j := by
  simp [h]

theorem cellsRep_sub {M0 : Nat → Prop} {S : Mem} {g : Nat → Value} {cs : List AV} (h : CellsRep M0 S g cs) (o n : Nat) : CellsRep M0 S (fun j => g (o + j)) (sub o n cs) := by
  intro j c hj
  unfold sub at hj
  rw [List.getElem?_take] at hj
  split at hj
  · rw [List.getElem?_drop] at hj
    exact h (o + j) c hj
  · cases hj

theorem cells_agg {v : AV} {cs : List AV} (h : v.cells = some cs) : (∃ l, v = .p (.agg l)) ∨ (∃ l, v = .agg l) ∨ v.isCell = true ∧ cs = [v] := by
  cases v with
  | p q =>
    cases q with
    | agg l => exact .inl ⟨l, rfl⟩
    | tuple l => simp [AV.cells] at h
    | _ => (simp [AV.cells, PV.cells] at h; subst h; exact .inr (.inr ⟨rfl, rfl⟩))
  | agg l => exact .inr (.inl ⟨l, rfl⟩)
  | tuple l => simp [AV.cells] at h
  | undef => simp [AV.cells] at h
  | _ => (simp [AV.cells] at h; subst h; exact .inr (.inr ⟨rfl, rfl⟩))

/-- a part of an element, read -/
theorem part_rep {M0 : Nat → Prop} {S : Mem} {g : Nat → Value} {x y : AV} {cs : List AV} {ag : Bool} {n o : Nat} (hx : x.cells = some cs) (h : CellsRep M0 S g cs) (hp : x.part ag n o = some y) :
    (∀ j, j < n → ag = true → o + j < cs.length) ∧ (ag = false → o < cs.length) ∧ Rep M0 S (if ag then .agg ((List.range n).map fun j => g (o + j)).toArray else g o) y := by
  unfold AV.part at hp
  rw [hx] at hp
  cases ag with
  | false =>
    simp only [Bool.false_eq_true, ↓reduceIte] at hp
    obtain ⟨h1, h2⟩ := h o y hp
    exact ⟨fun _ _ e => by simp at e, fun _ => (List.getElem?_eq_some_iff.1 hp).1, rep_of_S h1 h2⟩
  | true =>
    simp only [↓reduceIte] at hp ⊢
    refine ⟨?_, fun e => by simp at e, ?_⟩
    · intro j hj _
      split at hp
      · rename_i hc; omega
      · split at hp
        · rename_i hc; omega
        · cases hp
    · split at hp
      · rename_i hc
        obtain ⟨hl, rfl⟩ := hc
        subst hl
        simp only [Nat.zero_add]
        rcases cells_agg hx with ⟨l, rfl⟩ | ⟨l, rfl⟩ | ⟨hcell, _⟩
        · cases hp
          simp [AV.cells, PV.cells] at hx
          subst hx
          refine rep0_of_pv (.agg (by simp) (fun c hc => ?_) (fun i c hi => ?_))
          · obtain ⟨i, hi⟩ := List.getElem?_of_mem hc
            exact (h i (.p c) (by simp [hi])).1
          · have hlt := (List.getElem?_eq_some_iff.1 hi).1
            rw [range_map_getD _ _ _ (by simpa using hlt)]
            exact (h i (.p c) (by simp [hi])).2
        · cases hp
          simp [AV.cells] at hx
          subst hx
          refine ⟨_, rfl, fun c hc => (let ⟨i, hi⟩ := List.getElem?_of_mem hc; (h i c hi).1), by simp, fun i c hi => ?_⟩
          have hlt := (List.getElem?_eq_some_iff.1 hi).1
          rw [range_map_getD _ _ _ hlt]
          exact (h i c hi).2
        · cases x with
          | p q => cases q <;> first | (simp at hp; done) | (simp [AV.isCell, PV.isCell] at hcell; done)
          | agg l => simp [AV.isCell] at hcell
          | _ => simp at hp
      · split at hp
        · rename_i hle
          cases hp
          refine rep_of_A (mkAgg_rep (by simp [sub]; omega) fun j c hj => ?_)
          have hlt := (List.getElem?_eq_some_iff.1 hj).1
          have hjn : j < n := by simp [sub] at hlt; omega
          show c.isCell = true ∧ RepS M0 S (((List.range n).map fun j => g (o + j)).toArray.getD j undef) c
          rw [range_map_getD _ _ _ hjn]
          exact cellsRep_sub h o n j c hj
        · cases hp

/-! ### new objects -/
theorem own_append {m : List (Option Nat)} {b x : Nat} : Own (m ++ [some x]) b ↔ Own m b ∨ b = x := by
  simp [Own]
theorem heap_alloc_lt (w : World) (o : Obj) (b : Nat) (h : b < w.heap.size) : (w.alloc o).heap[b]? = w.heap[b]? := by
  show (w.heap.push o)[b]? = _
  rw [Array.getElem?_push, if_neg (by omega)]
theorem heap_alloc_eq (w : World) (o : Obj) : (w.alloc o).heap[w.heap.size]? = some o := by
  show (w.heap.push o)[w.heap.size]? = some o
  simp
theorem shape_alloc (w : World) (o : Obj) (b : Nat) (h : b < w.heap.size) : (w.alloc o).shape? b = w.shape? b := by
  unfold World.shape?
  rw [heap_alloc_lt w o b h]

theorem Fr.alloc (m : List (Option Nat)) (w : World) (o : Obj) : Fr m w (w.alloc o) :=
  ⟨rfl, rfl, rfl, by simp, fun b hb _ => heap_alloc_lt w o b hb, fun b hb => shape_alloc w o b hb⟩
theorem Fr.drew (m : List (Option Nat)) (w : World) : Fr m w w.drew := ⟨rfl, rfl, rfl, Nat.le_refl _, fun _ _ _ => rfl, fun _ _ => rfl⟩
theorem Fr.trans {m m' : List (Option Nat)} {a b c : World} (h : Fr m a b) (k : Fr m' b c) (hs : ∀ x, x < a.heap.size → Own m' x → Own m x) : Fr m a c :=
  ⟨k.os.trans h.os, k.tape.trans h.tape, k.output.trans h.output, Nat.le_trans h.size k.size,
    fun x hx hn => (k.block x (Nat.lt_of_lt_of_le hx h.size) (fun ho => hn (hs x hx ho))).trans (h.block x hx hn),
    fun x hx => (k.shape x (Nat.lt_of_lt_of_le hx h.size)).trans (h.shape x hx)⟩

/-- objects whose block lies as it lay -/
theorem ObjOk.keep {M0 : Nat → Prop} {S S' : Mem} (e : Ev S.h.length S S') {μ : Option Nat} {o : AObj} (h : ObjOk P M0 S μ o)
    (hb : ∀ b, μ = some b → S'.w.heap[b]? = S.w.heap[b]?) : ObjOk P M0 S' μ o := by
  cases o with
  | row sz xs =>
    rcases h with h | ⟨b, T, C, h1, h2, h3, h4⟩
    · exact .inl h
    · refine .inr ⟨b, T, C, h1, (hb b h1).trans h2, h3, fun i x hx => ?_⟩
      obtain ⟨cs, h5, h6, h7⟩ := h4 i x hx
      exact ⟨cs, h5, h6, fun j c hc => ⟨(h7 j c hc).1, e.keepS (h7 j c hc).2⟩⟩
  | strIter s p =>
    obtain ⟨b, h1, h2⟩ := h
    exact ⟨b, h1, (hb b h1).trans h2⟩
  | mp es =>
    obtain ⟨b, C, clk, h1, h2, h3⟩ := h
    exact ⟨b, C, clk, h1, (hb b h1).trans h2, h3.mono fun v a => e.keepS⟩
  | loop n tmps ps assign body st pend =>
    obtain ⟨b, r, h1, h2, h3, h4, h5⟩ := h
    exact ⟨b, r, h1, (hb b h1).trans h2, h3, fun t => e.keep (h4 t), h5⟩
  | dblock =>
    obtain ⟨b, h1, h2⟩ := h
    exact ⟨b, h1, (hb b h1).trans h2⟩
  | bld T el x =>
    obtain ⟨b, p, v, h1, h2, h3, h4, h5, h6⟩ := h
    exact ⟨b, p, v, h1, (hb b h1).trans h2, h3, h4, e.rep0 h5 (rep0_below h5), fun a n c hv => let ⟨N, hN⟩ := h6 a n c hv; ⟨N, (e.fr.shape _ (shape_lt hN)).trans hN⟩⟩
  | dead => exact trivial

/-- a new object behind the others -/
def Mem.new (S : Mem) (o : AObj) (ob : Obj) : Mem := ⟨S.m ++ [some S.w.heap.size], S.h ++ [o], S.w.alloc ob⟩

theorem Ev.new (base : Nat) (M0 : Nat → Prop) {S : Mem} (hS : HOk P M0 S) (hb : base ≤ S.h.length) (o : AObj) (ob : Obj) : Ev base S (S.new o ob) where
  fr := Fr.alloc _ _ _
  sub := fun b h => by
    rcases own_append.1 h with h | rfl
    · exact .inl h
    · exact .inr (Nat.le_refl _)
  obj := fun id o' hid ho => by
    refine ⟨o', ?_, ?_⟩
    · show (S.h ++ [o])[id]? = _
      rw [List.getElem?_append_left (by omega)]; exact ho
    · have : (S.new o ob).m.getD id none = S.m.getD id none := by
        show (S.m ++ [some S.w.heap.size]).getD id none = _
        have := hS.len
        simp [List.getElem?_append_left (show id < S.m.length by omega)]
      rw [this]
      exact ObjEv.refl _ _

theorem HOk.new {M0 : Nat → Prop} {S : Mem} (hS : HOk P M0 S) {o : AObj} {ob : Obj} (ho : ObjOk P M0 (S.new o ob) (some S.w.heap.size) o) : HOk P M0 (S.new o ob) where
  len := by simp [Mem.new, hS.len]
  lt := fun b h => by
    have : (S.new o ob).w.heap.size = S.w.heap.size + 1 := by simp [Mem.new]
    rcases own_append.1 h with h | rfl
    · have := hS.lt b h; omega
    · omega
  m0 := fun b h => by
    obtain ⟨h1, h2⟩ := hS.m0 b h
    refine ⟨by simp [Mem.new]; omega, fun hn => ?_⟩
    rcases own_append.1 hn with hn | rfl
    · exact h2 hn
    · omega
  inj := fun i j b hi hj => by
    have hlen := hS.len
    have key : ∀ k, (S.new o ob).m[k]? = some (some b) → (S.m[k]? = some (some b) ∧ b < S.w.heap.size) ∨ (k = S.m.length ∧ b = S.w.heap.size) := by
      intro k hk
      have hk' : (S.m ++ [some S.w.heap.size])[k]? = some (some b) := hk
      rcases Nat.lt_or_ge k S.m.length with h | h
      · rw [List.getElem?_append_left h] at hk'
        exact .inl ⟨hk', hS.lt b (List.mem_of_getElem? hk')⟩
      · rw [List.getElem?_append_right h] at hk'
        have h0 : k - S.m.length = 0 := by
          have := (List.getElem?_eq_some_iff.1 hk').1
          simp at this; omega
        rw [h0] at hk'
        simp at hk'
        exact .inr ⟨by omega, hk'.symm⟩
    rcases key i hi with ⟨h1, h2⟩ | ⟨h1, h2⟩ <;> rcases key j hj with ⟨h3, h4⟩ | ⟨h3, h4⟩
    · exact hS.inj i j b h1 h3
    · omega
    · omega
    · omega
  obj := fun id o' hid => by
    have hlen := hS.len
    have hid' : (S.h ++ [o])[id]? = some o' := hid
    rcases Nat.lt_or_ge id S.h.length with h | h
    · rw [List.getElem?_append_left h] at hid'
      have e := Ev.new S.h.length M0 hS (Nat.le_refl _) o ob
      have hm : (S.new o ob).m.getD id none = S.m.getD id none := by
        show (S.m ++ [some S.w.heap.size]).getD id none = _
        simp [List.getElem?_append_left (show id < S.m.length by omega)]
      rw [hm]
      refine (hS.obj id o' hid').keep e fun b hb => heap_alloc_lt _ _ _ ?_
      refine hS.lt b ?_
      have : S.m[id]? = some (some b) := by
        rw [List.getD_eq_getElem?_getD] at hb
        cases hq : S.m[id]? with
        | none => simp [hq] at hb
        | some z => simp [hq] at hb; rw [hb]
      exact List.mem_of_getElem? this
    · have h0 : id = S.h.length := by
        have := (List.getElem?_eq_some_iff.1 hid').1
        simp at this; omega
      subst h0
      rw [List.getElem?_append_right (Nat.le_refl _)] at hid'
      simp at hid'
      subst hid'
      have hm : (S.new o ob).m.getD S.h.length none = some S.w.heap.size := by
        show (S.m ++ [some S.w.heap.size]).getD S.h.length none = _
        rw [← hlen]; simp
      rw [hm]
      exact ho
  gl := (Ev.new 0 M0 hS (Nat.zero_le _) o ob).glob hS.gl

/-! ### draws -/
def Mem.drew (S : Mem) : Mem := ⟨S.m, S.h, S.w.drew⟩
theorem Ev.drew (base : Nat) (S : Mem) : Ev base S S.drew := ⟨Fr.drew _ _, fun _ h => .inl h, fun _ o _ h => ⟨o, h, ObjEv.refl _ _⟩⟩
theorem HOk.drew {M0 : Nat → Prop} {S : Mem} (hS : HOk P M0 S) : HOk P M0 S.drew :=
  ⟨hS.len, hS.lt, hS.m0, hS.inj, fun id o h => (hS.obj id o h).keep (Ev.drew _ S) fun _ _ => rfl, (Ev.drew 0 S).glob hS.gl⟩

end Abs
end Go.Proofs.YtdellinghbppgaaGreatDoor
