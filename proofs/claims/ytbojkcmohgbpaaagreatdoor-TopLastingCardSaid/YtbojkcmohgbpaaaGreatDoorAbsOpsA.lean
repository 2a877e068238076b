/-
  LAWS: operations of the abstract machine and the model's: variables, fields, indexes.
-/
import Derived.Test.YtbojkcmohgbpaaaGreatDoorAbsMemX
namespace Go.Proofs.YtbojkcmohgbpaaaGreatDoor
namespace Abs
variable {P : Program} {M0 : Nat → Prop} {S : Mem}
def ValOk (P : Program) (M0 : Nat → Prop) (S : Mem) (s : Sem Value) : OR → Prop
  | .val v h => ∃ (S' : Mem) (v' : Value), S'.h = h ∧ s.run P S.w = .ok v' S'.w ∧ Ev S.h.length S S' ∧ HOk P M0 S' ∧ Rep M0 S' v' v
  | .stuck => True
  | _ => False
def UnitOk (P : Program) (M0 : Nat → Prop) (S : Mem) (s : Sem Unit) : OR → Prop
  | .skip h => ∃ S' : Mem, S'.h = h ∧ s.run P S.w = .ok () S'.w ∧ Ev S.h.length S S' ∧ HOk P M0 S'
  | .stuck => True
  | _ => False
theorem ValOk.pure (hS : HOk P M0 S) {s : Sem Value} {v : AV} {v' : Value} (hr : s.run P S.w = .ok v' S.w) (h : Rep M0 S v' v) : ValOk P M0 S s (.val v S.h) :=
  ⟨S, v', rfl, hr, Ev.refl _ _, hS, h⟩
theorem ValOk.opt (hS : HOk P M0 S) {s : Sem Value} {v : Option AV} (h : ∀ x, v = some x → ∃ v', s.run P S.w = .ok v' S.w ∧ Rep M0 S v' x) : ValOk P M0 S s (optVal S.h v) := by
  cases v with
  | none => exact trivial
  | some x => obtain ⟨v', h1, h2⟩ := h x rfl; exact ValOk.pure hS h1 h2
theorem live_row {id ver sz : Nat} {xs : List AV} {X : Nat → Option Nat → Prop} (h : LiveAt S id ver X) (hid : S.h[id]? = some (.row sz xs)) (hv : xs.length = ver) : X sz (S.m.getD id none) := by
  rcases h with h | ⟨sz', xs', h, _, hx⟩
  · rw [hid] at h; cases h
  · rw [hid] at h; cases h; exact hx hv
theorem row_block (hS : HOk P M0 S) {id sz b : Nat} {xs : List AV} (hid : S.h[id]? = some (.row sz xs)) (hm : S.m.getD id none = some b) :
    ∃ C T, S.w.heap[b]? = some (.cells C T (0, 0)) ∧ xs.length * sz ≤ C.size ∧ ElemsOk M0 S sz C xs := by
  have := hS.obj id _ hid
  rw [hm] at this
  rcases this with ⟨h, _⟩ | ⟨b', T, C, h1, h2, h3, h4⟩
  · cases h
  · cases h1
    exact ⟨C, T, h2, h3, h4⟩
theorem cell_block {w : World} {b : Nat} {C : Array Value} {T : TypeId} {fr : Nat × Nat} (h : w.heap[b]? = some (.cells C T fr)) (k : Nat) (hk : k < C.size) : w.cell? ⟨b, k, none⟩ = some (C.getD k undef) := by
  simp [World.cell?, h, hk]
theorem idx_lt {i n sz j : Nat} (hi : i < n) (hj : j < sz) : i * sz + j < n * sz := by
  have h1 : (i + 1) * sz ≤ n * sz := Nat.mul_le_mul_right sz hi
  rw [Nat.add_mul, Nat.one_mul] at h1
  omega
theorem pv_cells {x : PV} {sz : Nat} (h : x.cells.length = sz ∧ ∀ c, c ∈ x.cells → c.isCell = true) : (AV.p x).cells = some (x.cells.map .p) := by
  cases x with
  | tuple l => have := h.2 (.tuple l) (by simp [PV.cells]); simp [PV.isCell] at this
  | _ => rfl
theorem run_part (hcells : Nat → Value) {T : TypeId} {x y : AV} {cs : List AV} {o b at_ : Nat} (hx : x.cells = some cs) (hrep : CellsRep M0 S hcells cs)
    (hcell : ∀ j, o + j < cs.length → S.w.cell? ⟨b, at_ + j, none⟩ = some (hcells (o + j))) (hz : loadT P T x o = some y) :
    ∃ v', (loadVar T ⟨b, at_, none⟩).run P S.w = .ok v' S.w ∧ Rep M0 S v' y := by
  unfold loadT at hz
  split at hz
  · rename_i ag n hag hn
    obtain ⟨h1, h2, h3⟩ := part_rep hx hrep hz
    exact ⟨_, run_loadVarT hag hn S.w b at_ (fun j => hcells (o + j)) (fun e j hj => hcell j (h1 j hj e)) (fun e => by simpa using hcell 0 (h2 e)), by simpa using h3⟩
  · cases hz
theorem load_ok (hS : HOk P M0 S) {T : TypeId} {x : AV} {v : Value} (hx : Rep M0 S v x) : ValOk P M0 S (Instr.loadAt T v) (aLoad P T x S.h) := by
  unfold aLoad
  split
  · rename_i sz xs i o
    split
    · rename_i y hy
      have h : RepP (Avoid M0 S.m) S.w v (.ptr sz xs i o) := hx
      cases h with
      | ptr f hat hsz hM hc hr =>
        rename_i b off at_
        refine ValOk.opt hS fun z hz => ?_
        have hi := (List.getElem?_eq_some_iff.1 hy).1
        have hsy := hsz y (List.mem_of_getElem? hy)
        have hrep : CellsRep M0 S (fun j => f (i * sz + j)) (y.cells.map .p) := by
          intro j c hj
          simp only [List.getElem?_map, Option.map_eq_some_iff] at hj
          obtain ⟨q, hq, rfl⟩ := hj
          exact ⟨hsy.2 q (List.mem_of_getElem? hq), hr i j y q hy hq⟩
        have hlen : (y.cells.map AV.p).length = sz := by simpa using hsy.1
        obtain ⟨v', h1, h2⟩ := run_part (P := P) (fun j => f (i * sz + j)) (b := b) (at_ := at_) (pv_cells hsy) hrep (fun j hj => by
          rw [← hc (i * sz + (o + j)) (idx_lt hi (by omega)), hat]
          simp only [Nat.add_assoc]) hz
        exact ⟨v', by simpa [Instr.loadAt, Instr.sureAddr] using h1, h2⟩
    · exact trivial
  · rename_i id ver i o
    split
    · rename_i sz xs hid
      split
      · rename_i hv
        split
        · rename_i y hy
          refine ValOk.opt hS fun z hz => ?_
          obtain ⟨b, hm, rfl⟩ := live_row hx.2 hid hv
          obtain ⟨C, T', hb, hsize, hel⟩ := row_block hS hid hm
          obtain ⟨cs, h5, h6, h7⟩ := hel i y hy
          have hi := (List.getElem?_eq_some_iff.1 hy).1
          obtain ⟨v', h1, h2⟩ := run_part (P := P) (fun j => C.getD (i * sz + j) undef) (b := b) (at_ := i * sz + o) h5 h7 (fun j hj => by
            rw [Nat.add_assoc]
            exact cell_block hb _ (Nat.lt_of_lt_of_le (idx_lt hi (by omega)) hsize)) hz
          exact ⟨v', by simpa [Instr.loadAt, Instr.sureAddr] using h1, h2⟩
        · exact trivial
      · exact trivial
    · exact trivial
  · exact trivial
theorem cells_mkAgg (cs : List AV) : (mkAgg cs).cells = some cs := by
  unfold mkAgg
  cases hp : pures cs with
  | some l => rw [pures_some hp]; rfl
  | none => rfl
theorem putCells_get {α : Type} (cs new : List α) (o j : Nat) (h : o + new.length ≤ cs.length) :
    (putCells cs o new)[j]? = if o ≤ j ∧ j < o + new.length then new[j - o]? else cs[j]? := by
  unfold putCells
  have h1 : (cs.take o).length = o := by simp; omega
  by_cases a : j < o
  · rw [if_neg (by omega), List.append_assoc, List.getElem?_append_left (by omega), List.getElem?_take, if_pos a]
  · by_cases b : j < o + new.length
    · rw [if_pos ⟨by omega, b⟩, List.getElem?_append_left (by simp; omega), List.getElem?_append_right (by omega), h1]
    · rw [if_neg (by omega), List.getElem?_append_right (by simp; omega), List.getElem?_drop]
      congr 1
      simp [h1]; omega
theorem putCells_length {α : Type} (cs new : List α) (o : Nat) (h : o + new.length ≤ cs.length) : (putCells cs o new).length = cs.length := by
  unfold putCells
  simp; omega
theorem toList_getD (C : Array Value) (j : Nat) : C.toList.getD j undef = C.getD j undef := by
  simp [List.getD_eq_getElem?_getD]
theorem store_ok (hS : HOk P M0 S) {T : TypeId} {x y : AV} {v u : Value} (hx : Rep M0 S v x) (hy : Rep M0 S u y) : UnitOk P M0 S (Instr.storeAt T v u) (aStore P T x y S.h) := by
  unfold aStore
  split
  · rename_i id ver i o n hn
    split
    · rename_i sz xs hid
      split
      · rename_i hv
        split
        · rename_i e he
          split
          · rename_i e' he'
            obtain ⟨b, hm, rfl⟩ := live_row hx.2 hid hv
            obtain ⟨C, T', hb, hsize, hel⟩ := row_block hS hid hm
            obtain ⟨cs, h5, h6, h7⟩ := hel i e he
            have hi := (List.getElem?_eq_some_iff.1 he).1
            unfold AV.withCells at he'
            rw [h5] at he'
            cases hyc : y.cells with
            | none => simp [hyc] at he'
            | some new =>
              simp only [hyc] at he'
              split at he'
              · rename_i hnew
                obtain ⟨hun, hur⟩ := rep_cells hy hyc
                -- the element behind the store
                have hle : o + n ≤ sz := by
                  split at he'
                  · rename_i hc; omega
                  · split at he'
                    · rename_i hc; omega
                    · cases he'
                have he2 : e'.cells = some (putCells cs o new) ∧ (putCells cs o new).length = sz := by
                  split at he'
                  · rename_i hc
                    cases he'
                    obtain ⟨hc1, rfl⟩ := hc
                    refine ⟨?_, by rw [putCells_length _ _ _ (by omega)]; omega⟩
                    rw [hyc]
                    congr 1
                    apply List.ext_getElem?
                    intro j
                    rw [putCells_get _ _ _ _ (by omega)]
                    by_cases hj : j < new.length
                    · rw [if_pos ⟨by omega, by omega⟩]; simp
                    · rw [if_neg (by omega), List.getElem?_eq_none (by omega), List.getElem?_eq_none (by omega)]
                  · split at he'
                    · cases he'
                      exact ⟨cells_mkAgg _, by rw [putCells_length _ _ _ (by omega)]; omega⟩
                    · cases he'
                have hvl : u.cells.toList.length = n := by simp; omega
                have hin : i * sz + sz ≤ xs.length * sz := by
                  have : (i + 1) * sz ≤ xs.length * sz := Nat.mul_le_mul_right sz hi
                  rwa [Nat.add_mul, Nat.one_mul] at this
                have hbound : i * sz + o + u.cells.toList.length ≤ C.size := by omega
                have hone : ∀ z ∈ u.cells.toList, z.oneCell' = true := by
                  intro z hz
                  obtain ⟨j, hj⟩ := List.getElem?_of_mem hz
                  have hjl := (List.getElem?_eq_some_iff.1 hj).1
                  have hjn : j < new.length := by omega
                  obtain ⟨h8, h9⟩ := hur j new[j] (by simp [hjn])
                  have : u.cells.getD j undef = z := by rw [← toList_getD, List.getD_eq_getElem?_getD, hj]; rfl
                  simp only [this] at h9
                  exact oneCell_of_repS h8 h9
                have hrun := run_storeCellsT (P := P) b T' u.cells.toList (i * sz + o) 0 C S.w hb (by omega) hone
                simp only [Nat.add_zero] at hrun
                refine ⟨S.set id (.row sz (xs.set i e')) b (ovr C (i * sz + o) u.cells.toList), rfl, ?_, Ev.set _ hid hm hb (size_ovr _ _ _) (by simp), HOk.set hS hid hm hb (size_ovr _ _ _) (by simp) (by simp [size_ovr]; omega) ?_⟩
                · unfold Instr.storeAt storeVar
                  simp only [Instr.sureAddr, Sem.run_bind, Sem.run_pure, Result.andThen_ok, run_sizeT hn]
                  rw [if_neg (by omega)]
                  simpa [Mem.set] using hrun
                · intro k z hk
                  by_cases hki : k = i
                  · subst hki
                    rw [List.getElem?_set_self hi] at hk
                    cases hk
                    refine ⟨_, he2.1, he2.2, fun j c hc => ?_⟩
                    have hjl := (List.getElem?_eq_some_iff.1 hc).1
                    rw [putCells_get _ _ _ _ (by omega)] at hc
                    rw [getD_ovr _ _ _ _ hbound]
                    split at hc
                    · rename_i hj
                      rw [if_pos (by omega)]
                      have := hur (j - o) c hc
                      rw [show k * sz + j - (k * sz + o) = j - o by omega, toList_getD]
                      exact this
                    · rename_i hj
                      rw [if_neg (by omega)]
                      exact h7 j c hc
                  · rw [List.getElem?_set_ne (Ne.symm hki)] at hk
                    obtain ⟨cs', g1, g2, g3⟩ := hel k z hk
                    refine ⟨cs', g1, g2, fun j c hc => ?_⟩
                    have hjl := (List.getElem?_eq_some_iff.1 hc).1
                    have hkl := (List.getElem?_eq_some_iff.1 hk).1
                    rw [getD_ovr _ _ _ _ hbound, if_neg ?_]
                    · exact g3 j c hc
                    · intro hh
                      rcases Nat.lt_or_ge k i with h' | h'
                      · have : (k + 1) * sz ≤ i * sz := Nat.mul_le_mul_right sz h'
                        rw [Nat.add_mul, Nat.one_mul] at this
                        omega
                      · have : (i + 1) * sz ≤ k * sz := Nat.mul_le_mul_right sz (by omega)
                        rw [Nat.add_mul, Nat.one_mul] at this
                        omega
              · cases he'
          · exact trivial
        · exact trivial
      · exact trivial
    · exact trivial
  · exact trivial
theorem fieldT_some {T : TypeId} {f off : Nat} {t : TypeId} (h : fieldT P T f = some (off, t)) :
    ∃ fs fd, P.underlying T = some (.struct fs) ∧ fs[f]? = some fd ∧ fd.offset = off ∧ fd.type = t := by
  unfold fieldT at h
  split at h
  · rename_i fs hu
    simp only [Option.map_eq_some_iff, Prod.mk.injEq] at h
    obtain ⟨fd, h1, h2, h3⟩ := h
    exact ⟨fs, fd, hu, h1, h2, h3⟩
  · cases h
theorem liveRow_some {h : Heap} {id ver sz : Nat} (e : liveRow h id ver = some sz) : ∃ xs, h[id]? = some (.row sz xs) ∧ xs.length = ver := by
  unfold liveRow at e
  split at e
  · rename_i sz' xs hid
    split at e
    · rename_i hv; cases e; exact ⟨xs, hid, hv⟩
    · cases e
  · cases e
theorem live_ptr {id ver i o' sz : Nat} {xs : List AV} {b : Nat} (hid : S.h[id]? = some (.row sz xs)) (hv : xs.length = ver) (hm : S.m.getD id none = some b) :
    Rep M0 S (.pointer (some ⟨b, i * sz + o', none⟩)) (.ptr id ver i o') :=
  ⟨⟨_, rfl⟩, .inr ⟨sz, xs, hid, by omega, fun _ => ⟨b, hm, rfl⟩⟩⟩
theorem fieldAddr_ok (hS : HOk P M0 S) {T : TypeId} {x : AV} {v : Value} {f : Nat} (hx : Rep M0 S v x) : ValOk P M0 S (Instr.fieldAt T v f) (aFieldAddr P T x f S.h) := by
  unfold aFieldAddr
  split
  · exact trivial
  · rename_i off t hf
    obtain ⟨fs, fd, hu, hfd, rfl, rfl⟩ := fieldT_some hf
    split
    · exact trivial
    · rename_i n hsz
      split
      · exact trivial
      · rename_i hn0
        have run : ∀ (b at_ : Nat), (Instr.fieldAt T (.pointer (some ⟨b, at_, none⟩)) f).run P S.w = .ok (.pointer (some ⟨b, at_ + fd.offset, none⟩)) S.w := by
          intro b at_
          simp [Instr.fieldAt, run_underlying hu, hfd, Instr.sureAddr, fieldPlace, run_sizeT hsz, hn0, add_none]
        split
        · rename_i sz xs i o
          have h : RepP (Avoid M0 S.m) S.w v (.ptr sz xs i o) := hx
          cases h with
          | ptr g hat hs hM hc hr =>
            refine ValOk.pure hS (run _ _) (rep0_of_pv (.ptr g ?_ hs hM hc hr))
            rw [hat, Nat.add_assoc]
        · rename_i id ver i o
          split
          · rename_i sz hl
            obtain ⟨xs, hid, hv⟩ := liveRow_some hl
            obtain ⟨b, hm, rfl⟩ := live_row hx.2 hid hv
            refine ValOk.pure hS (run _ _) ?_
            rw [Nat.add_assoc]
            exact live_ptr hid hv hm
          · exact trivial
        · exact trivial
theorem sliceT_some {T e : TypeId} (h : sliceT P T = some e) : P.underlying T = some (.slice e) := by
  unfold sliceT at h
  split at h
  · rename_i e' hu; cases h; exact hu
  · cases h
theorem arrayT_some {T e : TypeId} {n : Nat} (h : arrayT P T = some (n, e)) : P.underlying T = some (.array n e) := by
  unfold arrayT at h
  split at h
  · rename_i n' e' hu; cases h; exact hu
  · cases h
theorem toNat_lt {i : Int} {n : Nat} (h0 : 0 ≤ i) (h : i < n) : i.toNat < n := by omega
theorem int_rep {v : Value} {k : IntKind} {i : Int} (h : Rep M0 S v (.p (.int k i))) : v = .int k i := by
  have h' : RepP (Avoid M0 S.m) S.w v (.int k i) := h
  cases h' with
  | int k n => rfl
theorem bool_rep {v : Value} {b : Bool} (h : Rep M0 S v (.p (.bool b))) : v = .bool b := by
  have h' : RepP (Avoid M0 S.m) S.w v (.bool b) := h
  cases h' with
  | bool b => rfl
theorem indexAddr_ok (hS : HOk P M0 S) {T : TypeId} {x ix : AV} {v vi : Value} (hx : Rep M0 S v x) (hi : Rep M0 S vi ix) : ValOk P M0 S (Instr.indexAt T v vi) (aIndexAddr P T x ix S.h) := by
  unfold aIndexAddr
  split
  · rename_i k i
    have := int_rep hi
    subst this
    split
    · rename_i sz xs full
      split
      · rename_i e he
        split
        · rename_i hc
          obtain ⟨hsz, h0, hlt⟩ := hc
          have hu := sliceT_some he
          have h : RepP (Avoid M0 S.m) S.w v (.slice sz xs full) := hx
          cases h with
          | slice f hlen hcap hfull hs hM hcell hr =>
            rename_i b off len cap
            subst hlen
            refine ValOk.pure hS (v' := .pointer (some ⟨b, off + i.toNat * sz, none⟩)) ?_ (rep0_of_pv (.ptr f (by omega) hs hM hcell hr))
            simp [Instr.indexAt, asIntOf, run_underlying hu, h0, hlt, run_sizeT hsz, add_none]
          | empty hfull => simp at hlt; omega
        · exact trivial
      · exact trivial
    · rename_i id ver off len
      split
      · rename_i e sz xs he hid
        split
        · rename_i hc
          obtain ⟨hsz, hv, h0, hlt⟩ := hc
          have hu := sliceT_some he
          have hl := live_row hx.2 hid hv
          rcases hl with ⟨h1, _⟩ | ⟨b, cap, T', n, hm, rfl, hlc, hsh, hroom⟩ | ⟨_, _, h1⟩
          · omega
          · refine ValOk.pure hS (v' := .pointer (some ⟨b, (off + i.toNat) * sz + 0, none⟩)) ?_ (live_ptr hid hv hm)
            simp [Instr.indexAt, asIntOf, run_underlying hu, h0, hlt, run_sizeT hsz, add_none, Nat.add_mul]
          · omega
        · exact trivial
      · exact trivial
    · rename_i sz xs j o
      split
      · rename_i n e he
        split
        · rename_i s hs
          split
          · rename_i hc
            obtain ⟨h0, hlt⟩ := hc
            have hu := arrayT_some he
            have h : RepP (Avoid M0 S.m) S.w v (.ptr sz xs j o) := hx
            cases h with
            | ptr g hat hsz hM hcell hr =>
              rename_i b off at_
              refine ValOk.pure hS (v' := .pointer (some ⟨b, at_ + i.toNat * s, none⟩)) ?_ (rep0_of_pv (.ptr g (by rw [hat, Nat.add_assoc]) hsz hM hcell hr))
              simp [Instr.indexAt, asIntOf, run_underlying hu, h0, hlt, run_sizeT hs, add_none, Instr.sureAddr]
          · exact trivial
        · exact trivial
      · exact trivial
    · rename_i id ver j o
      split
      · rename_i n e he
        split
        · rename_i s sz hs hl
          split
          · rename_i hc
            obtain ⟨h0, hlt⟩ := hc
            have hu := arrayT_some he
            obtain ⟨xs, hid, hv⟩ := liveRow_some hl
            obtain ⟨b, hm, rfl⟩ := live_row hx.2 hid hv
            refine ValOk.pure hS (v' := .pointer (some ⟨b, j * sz + (o + i.toNat * s), none⟩)) ?_ (live_ptr hid hv hm)
            simp [Instr.indexAt, asIntOf, run_underlying hu, h0, hlt, run_sizeT hs, add_none, Instr.sureAddr, Nat.add_assoc]
          · exact trivial
        · exact trivial
      · exact trivial
    · exact trivial
  · exact trivial
theorem isStringT_some {T : TypeId} (h : isStringT P T = true) : P.underlying T = some .string := by
  unfold isStringT at h
  split at h
  · assumption
  · cases h
theorem run_partT {T : TypeId} {x y : AV} {v : Value} {o : Nat} {C : Array Value} (hv : v = .agg C) (hx : Rep M0 S v x) (hag : x.cells.isSome) (hz : loadT P T x o = some y) :
    ∃ v', (part T C o).run P S.w = .ok v' S.w ∧ Rep M0 S v' y := by
  subst hv
  obtain ⟨cs, hcs⟩ := Option.isSome_iff_exists.1 hag
  obtain ⟨hn, hrep⟩ := rep_cells hx hcs
  simp only [Value.cells] at hn hrep
  unfold loadT at hz
  split at hz
  · rename_i ag n hg hsz
    obtain ⟨h1, h2, h3⟩ := part_rep hcs hrep hz
    cases ag with
    | true =>
      refine ⟨.agg (C.extract o (o + n)), ?_, ?_⟩
      · simp [part, run_isAggT hg, run_sizeT hsz]
      · have hle : n = 0 ∨ o + n ≤ C.size := by
          rcases Nat.eq_zero_or_pos n with h | h
          · exact .inl h
          · have := h1 (n - 1) (by omega) rfl; exact .inr (by omega)
        have : C.extract o (o + n) = ((List.range n).map fun j => C.getD (o + j) undef).toArray := by
          apply Array.ext
          · simp; omega
          · intro k hk1 hk2
            have hkn : k < n := by simpa using hk2
            simp [show o + k < C.size by rcases hle with h | h <;> omega]
        rw [this]
        simpa using h3
    | false =>
      have ho := h2 rfl
      refine ⟨C.getD o undef, ?_, by simpa using h3⟩
      simp [part, run_isAggT hg, show o < C.size by omega]
  · cases hz
theorem agg_rep {v : Value} {x : AV} (hx : Rep M0 S v x) (h : (∃ l, x = .p (.agg l)) ∨ ∃ l, x = .agg l) : ∃ C, v = .agg C := by
  rcases h with ⟨l, rfl⟩ | ⟨l, rfl⟩
  · have h' : RepP (Avoid M0 S.m) S.w v (.agg l) := hx
    cases h' with
    | agg => exact ⟨_, rfl⟩
  · obtain ⟨C, rfl, _⟩ := hx
    exact ⟨C, rfl⟩
theorem field_ok (hS : HOk P M0 S) {T : TypeId} {x : AV} {v : Value} {f : Nat} (hx : Rep M0 S v x) : ValOk P M0 S (Instr.field T v f) (aField P T x f S.h) := by
  unfold aField
  split
  · exact trivial
  · rename_i off t hf
    obtain ⟨fs, fd, hu, hfd, rfl, rfl⟩ := fieldT_some hf
    have key : ((∃ l, x = .p (.agg l)) ∨ ∃ l, x = .agg l) → ValOk P M0 S (Instr.field T v f) (optVal S.h (loadT P fd.type x fd.offset)) := by
      intro hk
      refine ValOk.opt hS fun y hy => ?_
      obtain ⟨C, hv⟩ := agg_rep hx hk
      obtain ⟨v', h1, h2⟩ := run_partT hv hx (by rcases hk with ⟨l, rfl⟩ | ⟨l, rfl⟩ <;> rfl) hy
      exact ⟨v', by simp [Instr.field, run_underlying hu, hfd, hv, asAgg, h1], h2⟩
    split
    · exact key (.inl ⟨_, rfl⟩)
    · exact key (.inr ⟨_, rfl⟩)
    · exact trivial
theorem index_ok (hS : HOk P M0 S) {T : TypeId} {x ix : AV} {v vi : Value} (hx : Rep M0 S v x) (hi : Rep M0 S vi ix) : ValOk P M0 S (Instr.index T v vi) (aIndex P T x ix S.h) := by
  unfold aIndex
  split
  · rename_i k i
    have := int_rep hi
    subst this
    have key : ((∃ l, x = .p (.agg l)) ∨ ∃ l, x = .agg l) → ∀ n e s, arrayT P T = some (n, e) → sizeT P e = some s → (0 ≤ i ∧ i < n) →
        ValOk P M0 S (Instr.index T v (.int k i)) (optVal S.h (loadT P e x (i.toNat * s))) := by
      intro hk n e s he hs hc
      obtain ⟨h0, hlt⟩ := hc
      refine ValOk.opt hS fun y hy => ?_
      obtain ⟨C, hv⟩ := agg_rep hx hk
      obtain ⟨v', h1, h2⟩ := run_partT hv hx (by rcases hk with ⟨l, rfl⟩ | ⟨l, rfl⟩ <;> rfl) hy
      exact ⟨v', by simp [Instr.index, asIntOf, run_underlying (arrayT_some he), hv, h0, hlt, run_sizeT hs, h1], h2⟩
    split
    · rename_i s
      split
      · rename_i hc
        obtain ⟨hst, h0⟩ := hc
        split
        · rename_i b hb
          have h' : RepP (Avoid M0 S.m) S.w v (.str s) := hx
          cases h' with
          | str s =>
            refine ValOk.pure hS (v' := .int .u8 b.toNat) ?_ (rep0_of_pv (.int _ _))
            simp [Instr.index, asIntOf, run_underlying (isStringT_some hst), h0, hb]
        · exact trivial
      · exact trivial
    · split
      · split
        · split
          · rename_i n e he _ s hs hc
            exact key (.inl ⟨_, rfl⟩) n e s he hs hc
          · exact trivial
        · exact trivial
      · exact trivial
    · split
      · split
        · split
          · rename_i n e he _ s hs hc
            exact key (.inr ⟨_, rfl⟩) n e s he hs hc
          · exact trivial
        · exact trivial
      · exact trivial
    · exact trivial
  · exact trivial
end Abs
end Go.Proofs.YtbojkcmohgbpaaaGreatDoor
