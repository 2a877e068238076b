/-
  LAWS: operations of the abstract machine and the model's: literals, append, make.
-/
import Derived.Test.YtbojkcmohgbpaaaGreatDoorAbsOpsB
namespace Go.Proofs.YtbojkcmohgbpaaaGreatDoor
namespace Abs
variable {P : Program} {M0 : Nat → Prop} {S : Mem}
theorem foldl_ovr : ∀ (vs : List Value) (off k : Nat) (C : Array Value), (vs.zipIdx k).foldl (fun cs (c, j) => cs.setIfInBounds (off + j) c) C = ovr C (off + k) vs
  | [], _, _, _ => rfl
  | v :: r, off, k, C => by
    simp only [List.zipIdx_cons, List.foldl_cons, ovr]
    rw [foldl_ovr r off (k + 1)]
    rfl
theorem fill_ok {place : Nat → Option (Nat × Nat)} : ∀ {ps : List (Nat × AV)} {vs : List (Nat × Value)} {cs cs' : List AV} {C : Array Value},
    ps.length = vs.length → (∀ (i : Nat) p q, ps[i]? = some p → vs[i]? = some q → p.1 = q.1 ∧ Rep M0 S q.2 p.2) → C.size = cs.length → CellsRep M0 S (fun j => C.getD j undef) cs →
    aFill place ps cs = some cs' → ∃ C', Instr.fill place C vs = some C' ∧ C'.size = cs'.length ∧ CellsRep M0 S (fun j => C'.getD j undef) cs'
  | [], [], cs, cs', C, _, _, hn, hr, h => by
    simp [aFill] at h; subst h
    exact ⟨C, rfl, hn, hr⟩
  | [], _ :: _, _, _, _, hl, _, _, _, _ => by simp at hl
  | _ :: _, [], _, _, _, hl, _, _, _, _ => by simp at hl
  | (i, x) :: ps, (i', v) :: vs, cs, cs', C, hl, hp, hn, hr, h => by
    obtain ⟨h1, h2⟩ := hp 0 (i, x) (i', v) rfl rfl
    simp only at h1 h2
    subst h1
    simp only [aFill] at h
    split at h
    · rename_i off n new hpl hc
      split at h
      · rename_i hcond
        obtain ⟨hn1, hn2⟩ := hcond
        obtain ⟨hv, hvr⟩ := rep_cells h2 hc
        have hf : Instr.fill place C ((i, v) :: vs) = Instr.fill place (ovr C off v.cells.toList) vs := by
          simp only [Instr.fill, hpl]
          rw [if_neg (by simp; omega)]
          congr 1
          rw [← Array.foldl_toList, Array.toList_zipIdx]
          have := foldl_ovr v.cells.toList off 0 C
          simpa using this
        rw [hf]
        have hlen : v.cells.toList.length = new.length := by simpa using hv
        refine fill_ok (by simpa using hl) (fun k p q h3 h4 => hp (k + 1) p q (by simpa using h3) (by simpa using h4)) (by rw [size_ovr, putCells_length _ _ _ (by omega)]; exact hn) ?_ h
        intro j c hj
        have hjl := (List.getElem?_eq_some_iff.1 hj).1
        rw [putCells_get _ _ _ _ (by omega)] at hj
        show c.isCell = true ∧ RepS M0 S ((ovr C off v.cells.toList).getD j undef) c
        rw [getD_ovr _ _ _ _ (by omega)]
        split at hj
        · rename_i hjj
          rw [if_pos (by omega), toList_getD]
          exact hvr (j - off) c hj
        · rename_i hjj
          rw [if_neg (by omega)]
          exact hr j c hj
      · cases h
    · cases h
theorem build_ok (hS : HOk P M0 S) {T : TypeId} {ps : List (Nat × AV)} {vs : Array (Nat × Value)} (hl : ps.length = vs.toList.length)
    (hp : ∀ (i : Nat) p q, ps[i]? = some p → vs.toList[i]? = some q → p.1 = q.1 ∧ Rep M0 S q.2 p.2) : ValOk P M0 S (Instr.build T vs) (aBuild P T ps S.h) := by
  unfold aBuild
  split
  · rename_i z hz
    -- the zero value's cells
    have hzero : ∃ it zv, P.info? T = some it ∧ it.zero = some zv ∧ zv.cells.size = (z.map AV.p).length ∧ CellsRep M0 S (fun j => zv.cells.getD j undef) (z.map .p) := by
      unfold zeroT at hz
      cases hi : P.info? T with
      | none => simp [hi] at hz
      | some it =>
        cases hzz : it.zero with
        | none => simp [hi, hzz] at hz
        | some zv =>
          simp [hi, hzz] at hz
          have hrep : Rep M0 S zv (.p (.agg z)) := constPV_rep hz
          obtain ⟨h1, h2⟩ := rep_cells hrep (cs := z.map .p) rfl
          exact ⟨it, zv, rfl, hzz, h1, h2⟩
    obtain ⟨it, zv, hi, hzz, hzn, hzr⟩ := hzero
    split
    · rename_i pl hpl
      split
      · rename_i cs hcs
        obtain ⟨C', h1, h2, h3⟩ := fill_ok hl hp hzn hzr hcs
        have hb : P.built T vs.toList = some C' := by
          unfold placesT at hpl
          split at hpl
          · rename_i fs hu
            unfold Program.built
            simp only [hi, hu, hzz, hpl]
            simpa using h1
          · cases hpl
        exact ValOk.pure hS (run_build S.w T vs C' hb) (rep_of_A (mkAgg_rep h2 h3))
      · exact trivial
    · split
      · rename_i n e he
        split
        · rename_i s hs
          split
          · rename_i cs hcs
            obtain ⟨C', h1, h2, h3⟩ := fill_ok hl hp hzn hzr hcs
            have hb : P.built T vs.toList = some C' := by
              unfold sizeT at hs
              cases hie : P.info? e with
              | none => simp [hie] at hs
              | some ie =>
                simp [hie] at hs
                subst hs
                unfold Program.built
                simp only [hi, arrayT_some he, hzz, hie]
                exact h1
            exact ValOk.pure hS (run_build S.w T vs C' hb) (rep_of_A (mkAgg_rep h2 h3))
          · exact trivial
        · exact trivial
      · exact trivial
  · exact trivial
def Mem.junk (S : Mem) (ob : Obj) : Mem := ⟨S.m, S.h, S.w.alloc ob⟩
theorem Ev.junk (base : Nat) (S : Mem) (ob : Obj) : Ev base S (S.junk ob) := ⟨Fr.alloc _ _ _, fun _ h => .inl h, fun _ o _ h => ⟨o, h, ObjEv.refl _ _⟩⟩
theorem HOk.junk (hS : HOk P M0 S) (ob : Obj) : HOk P M0 (S.junk ob) where
  len := hS.len
  lt := fun b h => by have := hS.lt b h; simp [Mem.junk]; omega
  m0 := fun b h => by obtain ⟨h1, h2⟩ := hS.m0 b h; exact ⟨by simp [Mem.junk]; omega, h2⟩
  inj := hS.inj
  gl := (Ev.junk 0 S ob).glob hS.gl
  obj := fun id o h => (hS.obj id o h).keep (Ev.junk _ S ob) fun b hb => heap_alloc_lt _ _ _ (hS.lt b (own_of_getD hb).1)
theorem hasZero_some {T : TypeId} {n : Nat} (h : hasZero P T n = true) (w : World) : ∃ z, (zeroValue T).run P w = .ok z w ∧ z.cells.size = n := by
  unfold hasZero at h
  cases hi : P.info? T with
  | none => simp [hi] at h
  | some i =>
    cases hz : i.zero with
    | none => simp [hi, hz] at h
    | some v => simp [hi, hz] at h; exact ⟨v, by simp [zeroValue, typeInfo, hi, hz], h⟩
theorem elems_ok {sz : Nat} : ∀ {ps : List (Nat × AV)} {vs : List (Nat × Value)} {i : Nat} {xs : List AV} {C : Array Value},
    ps.length = vs.length → (∀ (i : Nat) p q, ps[i]? = some p → vs[i]? = some q → p.1 = q.1 ∧ Rep M0 S q.2 p.2) → aElems i sz ps = some xs → (i + xs.length) * sz ≤ C.size →
    ∃ C', Instr.fill (fun i => some (i * sz, sz)) C vs = some C' ∧ C'.size = C.size ∧ (∀ k, k < i * sz → C'.getD k undef = C.getD k undef) ∧
      ∀ (j : Nat) (x : AV), xs[j]? = some x → ∃ cs, x.cells = some cs ∧ cs.length = sz ∧ ∀ (l : Nat) (c : AV), cs[l]? = some c → c.isCell = true ∧ RepS M0 S (C'.getD ((i + j) * sz + l) undef) c
  | [], [], i, xs, C, _, _, h, _ => by
    simp [aElems] at h; subst h
    exact ⟨C, rfl, rfl, fun _ _ => rfl, fun j x hj => by simp at hj⟩
  | [], _ :: _, _, _, _, hl, _, _, _ => by simp at hl
  | _ :: _, [], _, _, _, hl, _, _, _ => by simp at hl
  | (i', x) :: ps, (i'', v) :: vs, i, xs, C, hl, hp, h, hC => by
    obtain ⟨h1, h2⟩ := hp 0 (i', x) (i'', v) rfl rfl
    simp only at h1 h2
    subst h1
    simp only [aElems] at h
    split at h
    · rename_i hcond
      obtain ⟨rfl, hcl⟩ := hcond
      cases hxc : x.cells with
      | none => simp [hxc] at hcl
      | some cs =>
        simp [hxc] at hcl
        split at h
        · rename_i l hlr
          cases h
          obtain ⟨hv, hvr⟩ := rep_cells h2 hxc
          have hC' : (i + 1 + l.length) * sz ≤ C.size := by simpa [Nat.add_comm, Nat.add_left_comm, Nat.add_assoc] using hC
          have hi1 : (i + 1) * sz ≤ C.size := Nat.le_trans (Nat.mul_le_mul_right sz (by omega)) hC'
          have hi2 : (i + 1) * sz = i * sz + sz := by rw [Nat.add_mul, Nat.one_mul]
          have hlen : v.cells.toList.length = sz := by simp; omega
          have hf : Instr.fill (fun i => some (i * sz, sz)) C ((i, v) :: vs) = Instr.fill (fun i => some (i * sz, sz)) (ovr C (i * sz) v.cells.toList) vs := by
            simp only [Instr.fill]
            rw [if_neg (by simp at hlen; simp; omega)]
            congr 1
            rw [← Array.foldl_toList, Array.toList_zipIdx]
            have := foldl_ovr v.cells.toList (i * sz) 0 C
            simpa using this
          obtain ⟨C', g1, g2, g3, g4⟩ := elems_ok (C := ovr C (i * sz) v.cells.toList) (i := i + 1) (by simpa using hl) (fun k p q h3 h4 => hp (k + 1) p q (by simpa using h3) (by simpa using h4)) hlr (by rw [size_ovr]; exact hC')
          refine ⟨C', by rw [hf]; exact g1, by rw [g2, size_ovr], fun k hk => ?_, fun j y hj => ?_⟩
          · rw [g3 k (by omega), getD_ovr _ _ _ _ (by omega), if_neg (by omega)]
          · cases j with
            | zero =>
              simp at hj; subst hj
              refine ⟨cs, hxc, hcl, fun l' c hc => ?_⟩
              have hll := (List.getElem?_eq_some_iff.1 hc).1
              rw [Nat.add_zero, g3 _ (by omega), getD_ovr _ _ _ _ (by omega), if_pos (by omega), toList_getD, show i * sz + l' - i * sz = l' by omega]
              exact hvr l' c hc
            | succ j =>
              obtain ⟨cs', a1, a2, a3⟩ := g4 j y (by simpa using hj)
              refine ⟨cs', a1, a2, fun l' c hc => ?_⟩
              have := a3 l' c hc
              rwa [show i + 1 + j = i + (j + 1) by omega] at this
        · cases h
    · cases h
theorem pures_get {xs : List AV} {l : List PV} (h : pures xs = some l) {i : Nat} {q : PV} (hi : l[i]? = some q) : xs[i]? = some (.p q) := by
  rw [pures_some h]; simp [hi]
theorem pslice_new {sz n b : Nat} {xs : List AV} {l : List PV} {C : Array Value} {T : TypeId} {w : World} {M : Nat → Prop} (hl : pures xs = some l) (hn : xs.length = n) (hb : w.heap[b]? = some (.cells C T (0, 0))) (hM : ¬ M b)
    (hsize : n * sz ≤ C.size) (hel : ∀ (i : Nat) (x : AV), xs[i]? = some x → ∃ cs, x.cells = some cs ∧ cs.length = sz ∧ ∀ (j : Nat) (c : AV), cs[j]? = some c → c.isCell = true ∧ ∀ q, c = .p q → RepP M w (C.getD (i * sz + j) undef) q) :
    RepP M w (.slice (some ⟨b, 0, none⟩) n n) (.slice sz l true) := by
  have hxl : l.length = n := by rw [pures_some hl] at hn; simpa using hn
  have helem : ∀ (i : Nat) (q : PV), l[i]? = some q → (q.cells.length = sz ∧ ∀ c, c ∈ q.cells → c.isCell = true) ∧ ∀ (j : Nat) (c : PV), q.cells[j]? = some c → RepP M w (C.getD (i * sz + j) undef) c := by
    intro i q hi
    obtain ⟨cs, h1, h2, h3⟩ := hel i _ (pures_get hl hi)
    have hcs : cs = q.cells.map .p := by
      cases q with
      | tuple l => simp [AV.cells] at h1
      | _ => (simp [AV.cells] at h1; exact h1.symm)
    subst hcs
    refine ⟨⟨by simpa using h2, fun c hc => ?_⟩, fun j c hj => ?_⟩
    · obtain ⟨j, hj⟩ := List.getElem?_of_mem hc
      exact (h3 j (.p c) (by simp [hj])).1
    · exact (h3 j (.p c) (by simp [hj])).2 c rfl
  refine .slice (fun k => C.getD k undef) (by omega) (Nat.le_refl _) (fun _ => rfl) (fun x hx => ?_) (fun _ => hM) (fun k hk => ?_) (fun i j x c hx hj => (helem i x hx).2 j c hj)
  · obtain ⟨i, hi⟩ := List.getElem?_of_mem hx
    exact (helem i x hi).1
  · rw [Nat.zero_add]
    exact cell_block hb k (by rw [hxl] at hk; omega)
theorem buildSlice_ok (hS : HOk P M0 S) {T : TypeId} {mu : Bool} {n : Nat} {ps : List (Nat × AV)} {vs : Array (Nat × Value)} (hl : ps.length = vs.toList.length)
    (hp : ∀ (i : Nat) p q, ps[i]? = some p → vs.toList[i]? = some q → p.1 = q.1 ∧ Rep M0 S q.2 p.2) : ValOk P M0 S (Instr.buildSlice T n vs) (aBuildSlice P T mu n ps S.h) := by
  unfold aBuildSlice
  split
  · rename_i e he
    split
    · rename_i sz hsz
      split
      · rename_i xs hxs
        split
        · rename_i hc
          obtain ⟨hxn, hsz0, hroom, hz⟩ := hc
          have hu := sliceT_some he
          obtain ⟨z, hzr, hzs⟩ := hasZero_some hz S.w
          have hzz : ∃ zz : Array Value, (if n * sz = 0 then (pure #[] : Sem (Array Value)) else do pure (← zeroValue e).cells).run P S.w = .ok zz S.w := by
            by_cases h0 : n * sz = 0
            · exact ⟨#[], by rw [if_pos h0]; rfl⟩
            · exact ⟨z.cells, by rw [if_neg h0]; simp [hzr]⟩
          obtain ⟨zz, hzz⟩ := hzz
          obtain ⟨C', g1, g2, _, g4⟩ := elems_ok (C := (Array.range (n * sz)).map (zz[· % zz.size]!)) (i := 0) hl hp hxs (by simp [hxn])
          simp only [Nat.zero_add] at g4
          have hsize : C'.size = n * sz := by rw [g2]; simp
          have hrun : (Instr.buildSlice T n vs).run P S.w = .ok (.slice (some ⟨S.w.heap.size, 0, none⟩) n n) (S.w.alloc (.cells C' e)) := by
            unfold Instr.buildSlice
            simp only [Sem.run_bind, run_underlying hu, Result.andThen_ok, run_sizeT hsz]
            rw [if_neg (by omega)]
            by_cases h0 : n * sz = 0
            · rw [if_pos h0] at hzz ⊢
              simp only [Sem.run_pure, Result.ok.injEq, and_true] at hzz
              subst hzz
              simp only [Sem.run_bind, Sem.run_pure, Result.andThen_ok, g1]
              simp [newRow]
            · rw [if_neg h0] at hzz ⊢
              simp only [Sem.run_bind, hzr, Result.andThen_ok, Sem.run_pure, Result.ok.injEq, and_true] at hzz
              subst hzz
              simp only [Sem.run_bind, hzr, Sem.run_pure, Result.andThen_ok, g1]
              simp [newRow]
          split
          · rename_i hmu hpl
            rename_i l _
            refine ⟨S.junk (.cells C' e), _, rfl, hrun, Ev.junk _ _ _, HOk.junk hS _, ?_⟩
            refine pslice_new hpl hxn (T := e) (heap_alloc_eq _ _) (fun h => ?_) (by omega) (fun i x hx => ?_)
            · rcases h with h | h
              · have := (hS.m0 _ h).1; omega
              · have := hS.lt _ h; omega
            · obtain ⟨cs, a1, a2, a3⟩ := g4 i x hx
              refine ⟨cs, a1, a2, fun j c hj => ⟨(a3 j c hj).1, fun q hq => ?_⟩⟩
              subst hq
              exact (Ev.junk 0 S (.cells C' e)).repP (a3 j _ hj).2
          · refine ⟨S.new (.row sz xs) (.cells C' e), _, rfl, hrun, Ev.new _ _ hS (Nat.le_refl _) _ _, HOk.new hS (.inr ⟨_, e, C', rfl, heap_alloc_eq _ _, by rw [hxn]; omega, ?_⟩), ⟨_, _, _, rfl⟩, .inr ⟨sz, xs, by simp [Mem.new], by omega, fun _ => .inr (.inl ⟨S.w.heap.size, n, e, C'.size, ?_, by simp, ⟨Nat.le_refl _, by omega⟩, ?_, by simp; omega, by omega⟩)⟩⟩
            · exact ElemsOk.keep (Ev.new _ _ hS (Nat.le_refl _) _ _) g4
            · have := hS.len
              show (S.m ++ [some S.w.heap.size]).getD S.h.length none = _
              rw [← this]; simp
            · show (S.w.alloc (.cells C' e)).shape? S.w.heap.size = _
              unfold World.shape?
              rw [heap_alloc_eq]
        · exact trivial
      · exact trivial
    · exact trivial
  · exact trivial
end Abs
end Go.Proofs.YtbojkcmohgbpaaaGreatDoor
