/-
  LAWS: operations of the abstract machine and the model's: variables, fields, indexes.
  LAWS: operations of the abstract machine and the model's: slices, literals, append, make, len.
  LAWS: operations of the abstract machine and the model's: literals, append, make.
  LAWS: operations of the abstract machine and the model's: append, make.
  LAWS: operations of the abstract machine and the model's: arithmetic, comparisons, the rest.
-/
import Derived.Test.YtdellinghbppgaaGreatDoorAbsStore
import Derived.Lib.AppendStr
namespace Go.Proofs.YtdellinghbppgaaGreatDoor
namespace Abs
variable {P : Program} {M0 : Nat → Prop} {S : Mem}

/-- a computation of the model yields what the abstract machine says -/
def ValOk (P : Program) (M0 : Nat → Prop) (S : Mem) (s : Sem Value) : OR → Prop
  | .val v h => ∃ (S' : Mem) (v' : Value), S'.h = h ∧ s.run P S.w = .ok v' S'.w ∧ Ev S.h.length S S' ∧ HOk P M0 S' ∧ Rep M0 S' v' v
  | .stuck => True
  | _ => False
def UnitOk (P : Program) (M0 : Nat → Prop) (S : Mem) (s : Sem Unit) : OR → Prop
  | .skip h => ∃ S' : Mem, S'.h = h ∧ s.run P S.w = .ok () S'.w ∧ Ev S.h.length S S' ∧ HOk P M0 S'
  | .stuck => True
  | _ => False

theorem ValOk.pure (hS : HOk P M0 S) {s : Sem Value} {v : AV} {v' : Value} (hr : s.run P S.w = .ok v' S.w) (h : Rep M0 S v' v) : ValOk P M0 S s (.val v S.h) :=
  ⟨S, v', rfl, hr, Ev.refl _ _, hS, h⟩
theorem ValOk.opt (hS : HOk P M0 S) {s : Sem Value} {v : Option AV} (h : ∀ x, v = some x → ∃ v', s.run P S.w = .ok v' S.w ∧ Rep M0 S v' x) : ValOk P M0 S s (optVal S.h v) := by
  cases v with
  | none => exact trivial
  | some x => obtain ⟨v', h1, h2⟩ := h x rfl; exact ValOk.pure hS h1 h2

theorem live_row {id ver sz : Nat} {xs : List AV} {X : Nat → Option Nat → Prop} (h : LiveAt S id ver X) (hid : S.h[id]? = some (.row sz xs)) (hv : xs.length = ver) : X sz (S.m.getD id none) := by
  rcases h with h | ⟨sz', xs', h, _, hx⟩
  · rw [hid] at h; cases h
  · rw [hid] at h; cases h; exact hx hv

/-- the block of a row of the call's own -/
theorem row_block (hS : HOk P M0 S) {id sz b : Nat} {xs : List AV} (hid : S.h[id]? = some (.row sz xs)) (hm : S.m.getD id none = some b) :
    ∃ C T, S.w.heap[b]? = some (.cells C T (0, 0)) ∧ xs.length * sz ≤ C.size ∧ ElemsOk M0 S sz C xs := by
  have := hS.obj id _ hid
  rw [hm] at this
  rcases this with ⟨h, _⟩ | ⟨b', T, C, h1, h2, h3, h4⟩
  · cases h
  · cases h1
    exact ⟨C, T, h2, h3, h4⟩

theorem cell_block {w : World} {b : Nat} {C : Array Value} {T : TypeId} {fr : Nat × Nat} (h : w.heap[b]? = some (.cells C T fr)) (k : Nat) (hk : k < C.size) : w.cell? ⟨b, k, none⟩ = some (C.getD k undef) := by
  simp [World.cell?, h, hk]

theorem idx_lt {i n sz j : Nat} (hi : i < n) (hj : j < sz) : i * sz + j < n * sz := by
  have h1 : (i + 1) * sz ≤ n * sz := Nat.mul_le_mul_right sz hi
  rw [Nat.add_mul, Nat.one_mul] at h1
  omega

theorem pv_cells {x : PV} {sz : Nat} (h : x.cells.length = sz ∧ ∀ c, c ∈ x.cells → c.isCell = true) : (AV.p x).cells = some (x.cells.map .p) := by
  cases x with
  | tuple l => have := h.2 (.tuple l) (by simp [PV.cells]); simp [PV.isCell] at this
  | _ => rfl

/-- a variable inside an element whose cells are known, read -/
theorem run_part (hcells : Nat → Value) {T : TypeId} {x y : AV} {cs : List AV} {o b at_ : Nat} (hx : x.cells = some cs) (hrep : CellsRep M0 S hcells cs)
    (hcell : ∀ j, o + j < cs.length → S.w.cell? ⟨b, at_ + j, none⟩ = some (hcells (o + j))) (hz : loadT P T x o = some y) :
    ∃ v', (loadVar T ⟨b, at_, none⟩).run P S.w = .ok v' S.w ∧ Rep M0 S v' y := by
  unfold loadT at hz
  split at hz
  · rename_i ag n hag hn
    obtain ⟨h1, h2, h3⟩ := part_rep hx hrep hz
    exact ⟨_, run_loadVarT hag hn S.w b at_ (fun j => hcells (o + j)) (fun e j hj => hcell j (h1 j hj e)) (fun e => by simpa using hcell 0 (h2 e)), by simpa using h3⟩
  · cases hz

theorem load_ok (hS : HOk P M0 S) {T : TypeId} {x : AV} {v : Value} (hx : Rep M0 S v x) : ValOk P M0 S (Instr.loadAt T v) (aLoad P T x S.h) := by
  unfold aLoad
  split
  · rename_i sz xs i o
    split
    · rename_i y hy
      have h : RepP (Avoid M0 S.m) S.w v (.ptr sz xs i o) := hx
      cases h with
      | ptr f hat hsz hM hc hr =>
        rename_i b off at_
        refine ValOk.opt hS fun z hz => ?_
        have hi := (List.getElem?_eq_some_iff.1 hy).1
        have hsy := hsz y (List.mem_of_getElem? hy)
        have hrep : CellsRep M0 S (fun j => f (i * sz + j)) (y.cells.map .p) := by
          intro j c hj
          simp only [List.getElem?_map, Option.map_eq_some_iff] at hj
          obtain ⟨q, hq, rfl⟩ := hj
          exact ⟨hsy.2 q (List.mem_of_getElem? hq), hr i j y q hy hq⟩
        have hlen : (y.cells.map AV.p).length = sz := by simpa using hsy.1
        obtain ⟨v', h1, h2⟩ := run_part (P := P) (fun j => f (i * sz + j)) (b := b) (at_ := at_) (pv_cells hsy) hrep (fun j hj => by
          rw [← hc (i * sz + (o + j)) (idx_lt hi (by omega)), hat]
          simp only [Nat.add_assoc]) hz
        exact ⟨v', by simpa [Instr.loadAt, Instr.sureAddr] using h1, h2⟩
    · exact trivial
  · rename_i id ver i o
    split
    · rename_i sz xs hid
      split
      · rename_i hv
        split
        · rename_i y hy
          refine ValOk.opt hS fun z hz => ?_
          obtain ⟨b, hm, rfl⟩ := live_row hx.2 hid hv
          obtain ⟨C, T', hb, hsize, hel⟩ := row_block hS hid hm
          obtain ⟨cs, h5, h6, h7⟩ := hel i y hy
          have hi := (List.getElem?_eq_some_iff.1 hy).1
          obtain ⟨v', h1, h2⟩ := run_part (P := P) (fun j => C.getD (i * sz + j) undef) (b := b) (at_ := i * sz + o) h5 h7 (fun j hj => by
            rw [Nat.add_assoc]
            exact cell_block hb _ (Nat.lt_of_lt_of_le (idx_lt hi (by omega)) hsize)) hz
          exact ⟨v', by simpa [Instr.loadAt, Instr.sureAddr] using h1, h2⟩
        · exact trivial
      · exact trivial
    · exact trivial
  · exact trivial

theorem cells_mkAgg (cs : List AV) : (mkAgg cs).cells = some cs := by
  unfold mkAgg
  cases hp : pures cs with
  | some l => rw [pures_some hp]; rfl
  | none => rfl

theorem putCells_get {α : Type} (cs new : List α) (o j : Nat) (h : o + new.length ≤ cs.length) :
    (putCells cs o new)[j]? = if o ≤ j ∧ j < o + new.length then new[j - o]? else cs[j]? := by
  unfold putCells
  have h1 : (cs.take o).length = o := by simp; omega
  by_cases a : j < o
  · rw [if_neg (by omega), List.append_assoc, List.getElem?_append_left (by omega), List.getElem?_take, if_pos a]
  · by_cases b : j < o + new.length
    · rw [if_pos ⟨by omega, b⟩, List.getElem?_append_left (by simp; omega), List.getElem?_append_right (by omega), h1]
    · rw [if_neg (by omega), List.getElem?_append_right (by simp; omega), List.getElem?_drop]
      congr 1
      simp [h1]; omega
theorem putCells_length {α : Type} (cs new : List α) (o : Nat) (h : o + new.length ≤ cs.length) : (putCells cs o new).length = cs.length := by
  unfold putCells
  simp; omega

theorem toList_getD (C : Array Value) (j : Nat) : C.toList.getD j undef = C.getD j undef := by
  simp [List.getD_eq_getElem?_getD]

theorem store_ok (hS : HOk P M0 S) {T : TypeId} {x y : AV} {v u : Value} (hx : Rep M0 S v x) (hy : Rep M0 S u y) : UnitOk P M0 S (Instr.storeAt T v u) (aStore P T x y S.h) := by
  unfold aStore
  split
  · rename_i id ver i o n hn
    split
    · rename_i sz xs hid
      split
      · rename_i hv
        split
        · rename_i e he
          split
          · rename_i e' he'
            obtain ⟨b, hm, rfl⟩ := live_row hx.2 hid hv
            obtain ⟨C, T', hb, hsize, hel⟩ := row_block hS hid hm
            obtain ⟨cs, h5, h6, h7⟩ := hel i e he
            have hi := (List.getElem?_eq_some_iff.1 he).1
            unfold AV.withCells at he'
            rw [h5] at he'
            cases hyc : y.cells with
            | none => simp [hyc] at he'
            | some new =>
              simp only [hyc] at he'
              split at he'
              · rename_i hnew
                obtain ⟨hun, hur⟩ := rep_cells hy hyc
                -- the element behind the store
                have hle : o + n ≤ sz := by
                  split at he'
                  · rename_i hc; omega
                  · split at he'
                    · rename_i hc; omega
                    · cases he'
                have he2 : e'.cells = some (putCells cs o new) ∧ (putCells cs o new).length = sz := by
                  split at he'
                  · rename_i hc
                    cases he'
                    obtain ⟨hc1, rfl⟩ := hc
                    refine ⟨?_, by rw [putCells_length _ _ _ (by omega)]; omega⟩
                    rw [hyc]
                    congr 1
                    apply List.ext_getElem?
                    intro j
                    rw [putCells_get _ _ _ _ (by omega)]
                    by_cases hj : j < new.length
                    · rw [if_pos ⟨by omega, by omega⟩]; simp
                    · rw [if_neg (by omega), List.getElem?_eq_none (by omega), List.getElem?_eq_none (by omega)]
                  · split at he'
                    · cases he'
                      exact ⟨cells_mkAgg _, by rw [putCells_length _ _ _ (by omega)]; omega⟩
                    · cases he'
                have hvl : u.cells.toList.length = n := by simp; omega
                have hin : i * sz + sz ≤ xs.length * sz := by
                  have : (i + 1) * sz ≤ xs.length * sz := Nat.mul_le_mul_right sz hi
                  rwa [Nat.add_mul, Nat.one_mul] at this
                have hbound : i * sz + o + u.cells.toList.length ≤ C.size := by omega
                have hone : ∀ z ∈ u.cells.toList, z.oneCell' = true := by
                  intro z hz
                  obtain ⟨j, hj⟩ := List.getElem?_of_mem hz
                  have hjl := (List.getElem?_eq_some_iff.1 hj).1
                  have hjn : j < new.length := by omega
                  obtain ⟨h8, h9⟩ := hur j new[j] (by simp [hjn])
                  have : u.cells.getD j undef = z := by rw [← toList_getD, List.getD_eq_getElem?_getD, hj]; rfl
                  simp only [this] at h9
                  exact oneCell_of_repS h8 h9
                have hrun := run_storeCellsT (P := P) b T' u.cells.toList (i * sz + o) 0 C S.w hb (by omega) hone
                simp only [Nat.add_zero] at hrun
                refine ⟨S.set id (.row sz (xs.set i e')) b (ovr C (i * sz + o) u.cells.toList), rfl, ?_, Ev.set _ hid hm hb (size_ovr _ _ _) (by simp), HOk.set hS hid hm hb (size_ovr _ _ _) (by simp) (by simp [size_ovr]; omega) ?_⟩
                · unfold Instr.storeAt storeVar
                  simp only [Instr.sureAddr, Sem.run_bind, Sem.run_pure, Result.andThen_ok, run_sizeT hn]
                  rw [if_neg (by omega)]
                  simpa [Mem.set] using hrun
                · intro k z hk
                  by_cases hki : k = i
                  · subst hki
                    rw [List.getElem?_set_self hi] at hk
                    cases hk
                    refine ⟨_, he2.1, he2.2, fun j c hc => ?_⟩
                    have hjl := (List.getElem?_eq_some_iff.1 hc).1
                    rw [putCells_get _ _ _ _ (by omega)] at hc
                    rw [getD_ovr _ _ _ _ hbound]
                    split at hc
                    · rename_i hj
                      rw [if_pos (by omega)]
                      have := hur (j - o) c hc
                      rw [show k * sz + j - (k * sz + o) = j - o by omega, toList_getD]
                      exact this
                    · rename_i hj
                      rw [if_neg (by omega)]
                      exact h7 j c hc
                  · rw [List.getElem?_set_ne (Ne.symm hki)] at hk
                    obtain ⟨cs', g1, g2, g3⟩ := hel k z hk
                    refine ⟨cs', g1, g2, fun j c hc => ?_⟩
                    have hjl := (List.getElem?_eq_some_iff.1 hc).1
                    have hkl := (List.getElem?_eq_some_iff.1 hk).1
                    rw [getD_ovr _ _ _ _ hbound, if_neg ?_]
                    · exact g3 j c hc
                    · intro hh
                      rcases Nat.lt_or_ge k i with h' | h'
                      · have : (k + 1) * sz ≤ i * sz := Nat.mul_le_mul_right sz h'
                        rw [Nat.add_mul, Nat.one_mul] at this
                        omega
                      · have : (i + 1) * sz ≤ k * sz := Nat.mul_le_mul_right sz (by omega)
                        rw [Nat.add_mul, Nat.one_mul] at this
                        omega
              · cases he'
          · exact trivial
        · exact trivial
      · exact trivial
    · exact trivial
  · exact trivial

/-! ### fields, indexes -/
theorem fieldT_some {T : TypeId} {f off : Nat} {t : TypeId} (h : fieldT P T f = some (off, t)) :
    ∃ fs fd, P.underlying T = some (.struct fs) ∧ fs[f]? = some fd ∧ fd.offset = off ∧ fd.type = t := by
  unfold fieldT at h
  split at h
  · rename_i fs hu
    simp only [Option.map_eq_some_iff, Prod.mk.injEq] at h
    obtain ⟨fd, h1, h2, h3⟩ := h
    exact ⟨fs, fd, hu, h1, h2, h3⟩
  · cases h

theorem sizeOf_ne {t : TypeId} {n : Nat} (hn : sizeT P t = some n) (w : World) : (sizeOf t).run P w = .ok n w := run_sizeT hn w

theorem liveRow_some {h : Heap} {id ver sz : Nat} (e : liveRow h id ver = some sz) : ∃ xs, h[id]? = some (.row sz xs) ∧ xs.length = ver := by
  unfold liveRow at e
  split at e
  · rename_i sz' xs hid
    split at e
    · rename_i hv; cases e; exact ⟨xs, hid, hv⟩
    · cases e
  · cases e

theorem live_ptr {id ver i o' sz : Nat} {xs : List AV} {b : Nat} (hid : S.h[id]? = some (.row sz xs)) (hv : xs.length = ver) (hm : S.m.getD id none = some b) :
    Rep M0 S (.pointer (some ⟨b, i * sz + o', none⟩)) (.ptr id ver i o') :=
  ⟨⟨_, rfl⟩, .inr ⟨sz, xs, hid, by omega, fun _ => ⟨b, hm, rfl⟩⟩⟩

theorem fieldAddr_ok (hS : HOk P M0 S) {T : TypeId} {x : AV} {v : Value} {f : Nat} (hx : Rep M0 S v x) : ValOk P M0 S (Instr.fieldAt T v f) (aFieldAddr P T x f S.h) := by
  unfold aFieldAddr
  split
  · exact trivial
  · rename_i off t hf
    obtain ⟨fs, fd, hu, hfd, rfl, rfl⟩ := fieldT_some hf
    split
    · exact trivial
    · rename_i n hsz
      split
      · exact trivial
      · rename_i hn0
        have run : ∀ (b at_ : Nat), (Instr.fieldAt T (.pointer (some ⟨b, at_, none⟩)) f).run P S.w = .ok (.pointer (some ⟨b, at_ + fd.offset, none⟩)) S.w := by
          intro b at_
          simp [Instr.fieldAt, run_underlying hu, hfd, Instr.sureAddr, fieldPlace, run_sizeT hsz, hn0, add_none]
        split
        · rename_i sz xs i o
          have h : RepP (Avoid M0 S.m) S.w v (.ptr sz xs i o) := hx
          cases h with
          | ptr g hat hs hM hc hr =>
            refine ValOk.pure hS (run _ _) (rep0_of_pv (.ptr g ?_ hs hM hc hr))
            rw [hat, Nat.add_assoc]
        · rename_i id ver i o
          split
          · rename_i sz hl
            obtain ⟨xs, hid, hv⟩ := liveRow_some hl
            obtain ⟨b, hm, rfl⟩ := live_row hx.2 hid hv
            refine ValOk.pure hS (run _ _) ?_
            rw [Nat.add_assoc]
            exact live_ptr hid hv hm
          · exact trivial
        · exact trivial

theorem sliceT_some {T e : TypeId} (h : sliceT P T = some e) : P.underlying T = some (.slice e) := by
  unfold sliceT at h
  split at h
  · rename_i e' hu; cases h; exact hu
  · cases h
theorem arrayT_some {T e : TypeId} {n : Nat} (h : arrayT P T = some (n, e)) : P.underlying T = some (.array n e) := by
  unfold arrayT at h
  split at h
  · rename_i n' e' hu; cases h; exact hu
  · cases h

theorem toNat_lt {i : Int} {n : Nat} (h0 : 0 ≤ i) (h : i < n) : i.toNat < n := by omega

theorem int_rep {v : Value} {k : IntKind} {i : Int} (h : Rep M0 S v (.p (.int k i))) : v = .int k i := by
  have h' : RepP (Avoid M0 S.m) S.w v (.int k i) := h
  cases h' with
  | int k n => rfl
theorem bool_rep {v : Value} {b : Bool} (h : Rep M0 S v (.p (.bool b))) : v = .bool b := by
  have h' : RepP (Avoid M0 S.m) S.w v (.bool b) := h
  cases h' with
  | bool b => rfl

theorem indexAddr_ok (hS : HOk P M0 S) {T : TypeId} {x ix : AV} {v vi : Value} (hx : Rep M0 S v x) (hi : Rep M0 S vi ix) : ValOk P M0 S (Instr.indexAt T v vi) (aIndexAddr P T x ix S.h) := by
  unfold aIndexAddr
  split
  · rename_i k i
    have := int_rep hi
    subst this
    split
    · rename_i sz xs full
      split
      · rename_i e he
        split
        · rename_i hc
          obtain ⟨hsz, h0, hlt⟩ := hc
          have hu := sliceT_some he
          have h : RepP (Avoid M0 S.m) S.w v (.slice sz xs full) := hx
          cases h with
          | slice f hlen hcap hfull hs hM hcell hr =>
            rename_i b off len cap
            subst hlen
            refine ValOk.pure hS (v' := .pointer (some ⟨b, off + i.toNat * sz, none⟩)) ?_ (rep0_of_pv (.ptr f (by omega) hs hM hcell hr))
            simp [Instr.indexAt, asIntOf, run_underlying hu, h0, hlt, run_sizeT hsz, add_none]
          | empty hfull => simp at hlt; omega
        · exact trivial
      · exact trivial
    · rename_i id ver off len
      split
      · rename_i e sz xs he hid
        split
        · rename_i hc
          obtain ⟨hsz, hv, h0, hlt⟩ := hc
          have hu := sliceT_some he
          have hl := live_row hx.2 hid hv
          rcases hl with ⟨h1, _⟩ | ⟨b, cap, T', n, hm, rfl, hlc, hsh, hroom⟩ | ⟨_, _, h1⟩
          · omega
          · refine ValOk.pure hS (v' := .pointer (some ⟨b, (off + i.toNat) * sz + 0, none⟩)) ?_ (live_ptr hid hv hm)
            simp [Instr.indexAt, asIntOf, run_underlying hu, h0, hlt, run_sizeT hsz, add_none, Nat.add_mul]
          · omega
        · exact trivial
      · exact trivial
    · rename_i sz xs j o
      split
      · rename_i n e he
        split
        · rename_i s hs
          split
          · rename_i hc
            obtain ⟨h0, hlt⟩ := hc
            have hu := arrayT_some he
            have h : RepP (Avoid M0 S.m) S.w v (.ptr sz xs j o) := hx
            cases h with
            | ptr g hat hsz hM hcell hr =>
              rename_i b off at_
              refine ValOk.pure hS (v' := .pointer (some ⟨b, at_ + i.toNat * s, none⟩)) ?_ (rep0_of_pv (.ptr g (by rw [hat, Nat.add_assoc]) hsz hM hcell hr))
              simp [Instr.indexAt, asIntOf, run_underlying hu, h0, hlt, run_sizeT hs, add_none, Instr.sureAddr]
          · exact trivial
        · exact trivial
      · exact trivial
    · rename_i id ver j o
      split
      · rename_i n e he
        split
        · rename_i s sz hs hl
          split
          · rename_i hc
            obtain ⟨h0, hlt⟩ := hc
            have hu := arrayT_some he
            obtain ⟨xs, hid, hv⟩ := liveRow_some hl
            obtain ⟨b, hm, rfl⟩ := live_row hx.2 hid hv
            refine ValOk.pure hS (v' := .pointer (some ⟨b, j * sz + (o + i.toNat * s), none⟩)) ?_ (live_ptr hid hv hm)
            simp [Instr.indexAt, asIntOf, run_underlying hu, h0, hlt, run_sizeT hs, add_none, Instr.sureAddr, Nat.add_assoc]
          · exact trivial
        · exact trivial
      · exact trivial
    · exact trivial
  · exact trivial

theorem isStringT_some {T : TypeId} (h : isStringT P T = true) : P.underlying T = some .string := by
  unfold isStringT at h
  split at h
  · assumption
  · cases h

/-- a part of an aggregate -/
theorem run_partT {T : TypeId} {x y : AV} {v : Value} {o : Nat} {C : Array Value} (hv : v = .agg C) (hx : Rep M0 S v x) (hag : x.cells.isSome) (hz : loadT P T x o = some y) :
    ∃ v', (part T C o).run P S.w = .ok v' S.w ∧ Rep M0 S v' y := by
  subst hv
  obtain ⟨cs, hcs⟩ := Option.isSome_iff_exists.1 hag
  obtain ⟨hn, hrep⟩ := rep_cells hx hcs
  simp only [Value.cells] at hn hrep
  unfold loadT at hz
  split at hz
  · rename_i ag n hg hsz
    obtain ⟨h1, h2, h3⟩ := part_rep hcs hrep hz
    cases ag with
    | true =>
      refine ⟨.agg (C.extract o (o + n)), ?_, ?_⟩
      · simp [part, run_isAggT hg, run_sizeT hsz]
      · have hle : n = 0 ∨ o + n ≤ C.size := by
          rcases Nat.eq_zero_or_pos n with h | h
          · exact .inl h
          · have := h1 (n - 1) (by omega) rfl; exact .inr (by omega)
        have : C.extract o (o + n) = ((List.range n).map fun j => C.getD (o + j) undef).toArray := by
          apply Array.ext
          · simp; omega
          · intro k hk1 hk2
            have hkn : k < n := by simpa using hk2
            simp [show o + k < C.size by rcases hle with h | h <;> omega]
        rw [this]
        simpa using h3
    | false =>
      have ho := h2 rfl
      refine ⟨C.getD o undef, ?_, by simpa using h3⟩
      simp [part, run_isAggT hg, show o < C.size by omega]
  · cases hz

theorem agg_rep {v : Value} {x : AV} (hx : Rep M0 S v x) (h : (∃ l, x = .p (.agg l)) ∨ ∃ l, x = .agg l) : ∃ C, v = .agg C := by
  rcases h with ⟨l, rfl⟩ | ⟨l, rfl⟩
  · have h' : RepP (Avoid M0 S.m) S.w v (.agg l) := hx
    cases h' with
    | agg => exact ⟨_, rfl⟩
  · obtain ⟨C, rfl, _⟩ := hx
    exact ⟨C, rfl⟩

theorem field_ok (hS : HOk P M0 S) {T : TypeId} {x : AV} {v : Value} {f : Nat} (hx : Rep M0 S v x) : ValOk P M0 S (Instr.field T v f) (aField P T x f S.h) := by
  unfold aField
  split
  · exact trivial
  · rename_i off t hf
    obtain ⟨fs, fd, hu, hfd, rfl, rfl⟩ := fieldT_some hf
    have key : ((∃ l, x = .p (.agg l)) ∨ ∃ l, x = .agg l) → ValOk P M0 S (Instr.field T v f) (optVal S.h (loadT P fd.type x fd.offset)) := by
      intro hk
      refine ValOk.opt hS fun y hy => ?_
      obtain ⟨C, hv⟩ := agg_rep hx hk
      obtain ⟨v', h1, h2⟩ := run_partT hv hx (by rcases hk with ⟨l, rfl⟩ | ⟨l, rfl⟩ <;> rfl) hy
      exact ⟨v', by simp [Instr.field, run_underlying hu, hfd, hv, asAgg, h1], h2⟩
    split
    · exact key (.inl ⟨_, rfl⟩)
    · exact key (.inr ⟨_, rfl⟩)
    · exact trivial

theorem index_ok (hS : HOk P M0 S) {T : TypeId} {x ix : AV} {v vi : Value} (hx : Rep M0 S v x) (hi : Rep M0 S vi ix) : ValOk P M0 S (Instr.index T v vi) (aIndex P T x ix S.h) := by
  unfold aIndex
  split
  · rename_i k i
    have := int_rep hi
    subst this
    have key : ((∃ l, x = .p (.agg l)) ∨ ∃ l, x = .agg l) → ∀ n e s, arrayT P T = some (n, e) → sizeT P e = some s → (0 ≤ i ∧ i < n) →
        ValOk P M0 S (Instr.index T v (.int k i)) (optVal S.h (loadT P e x (i.toNat * s))) := by
      intro hk n e s he hs hc
      obtain ⟨h0, hlt⟩ := hc
      refine ValOk.opt hS fun y hy => ?_
      obtain ⟨C, hv⟩ := agg_rep hx hk
      obtain ⟨v', h1, h2⟩ := run_partT hv hx (by rcases hk with ⟨l, rfl⟩ | ⟨l, rfl⟩ <;> rfl) hy
      exact ⟨v', by simp [Instr.index, asIntOf, run_underlying (arrayT_some he), hv, h0, hlt, run_sizeT hs, h1], h2⟩
    split
    · rename_i s
      split
      · rename_i hc
        obtain ⟨hst, h0⟩ := hc
        split
        · rename_i b hb
          have h' : RepP (Avoid M0 S.m) S.w v (.str s) := hx
          cases h' with
          | str s =>
            refine ValOk.pure hS (v' := .int .u8 b.toNat) ?_ (rep0_of_pv (.int _ _))
            simp [Instr.index, asIntOf, run_underlying (isStringT_some hst), h0, hb]
        · exact trivial
      · exact trivial
    · split
      · split
        · split
          · rename_i n e he _ s hs hc
            exact key (.inl ⟨_, rfl⟩) n e s he hs hc
          · exact trivial
        · exact trivial
      · exact trivial
    · split
      · split
        · split
          · rename_i n e he _ s hs hc
            exact key (.inr ⟨_, rfl⟩) n e s he hs hc
          · exact trivial
        · exact trivial
      · exact trivial
    · exact trivial
  · exact trivial

end Abs
end Go.Proofs.YtdellinghbppgaaGreatDoor

namespace Go.Proofs.YtdellinghbppgaaGreatDoor
namespace Abs
variable {P : Program} {M0 : Nat → Prop} {S : Mem}

theorem len_ok (hS : HOk P M0 S) {T : TypeId} {x : AV} {v : Value} {ty : TypeId} (hx : Rep M0 S v x) : ValOk P M0 S (Builtin.len_ #[T] ty #[v]) (aLen P T x S.h) := by
  unfold aLen
  split
  · rename_i s
    split
    · rename_i hs
      have h' : RepP (Avoid M0 S.m) S.w v (.str s) := hx
      cases h'
      refine ValOk.pure hS (v' := .int .i64 s.size) ?_ (rep0_of_pv (.int _ _))
      simp [Builtin.len_, run_underlying (isStringT_some hs), goInt]
    · exact trivial
  · rename_i sz xs full
    split
    · rename_i hs
      obtain ⟨e, he⟩ := Option.isSome_iff_exists.1 hs
      have h' : RepP (Avoid M0 S.m) S.w v (.slice sz xs full) := hx
      refine ValOk.pure hS (v' := .int .i64 xs.length) ?_ (rep0_of_pv (.int _ _))
      cases h' with
      | slice f hlen => subst hlen; simp [Builtin.len_, run_underlying (sliceT_some he), goInt]
      | empty => simp [Builtin.len_, run_underlying (sliceT_some he), goInt]
    · exact trivial
  · split
    · rename_i hs
      obtain ⟨e, he⟩ := Option.isSome_iff_exists.1 hs
      have h' : RepP (Avoid M0 S.m) S.w v .nilslice := hx
      cases h'
      refine ValOk.pure hS (v' := .int .i64 0) ?_ (rep0_of_pv (.int _ _))
      simp [Builtin.len_, run_underlying (sliceT_some he), goInt]
    · exact trivial
  · rename_i id ver off len
    split
    · rename_i hs
      obtain ⟨e, he⟩ := Option.isSome_iff_exists.1 hs.1
      obtain ⟨sz, hl⟩ := Option.isSome_iff_exists.1 hs.2
      obtain ⟨xs, hid, hv⟩ := liveRow_some hl
      refine ValOk.pure hS (v' := .int .i64 len) ?_ (rep0_of_pv (.int _ _))
      rcases live_row hx.2 hid hv with ⟨rfl, _, _, a, cap, rfl⟩ | ⟨b, cap, T', n, hm, rfl, _⟩ | ⟨_, rfl, rfl⟩ <;>
        simp [Builtin.len_, run_underlying (sliceT_some he), goInt]
    · exact trivial
  · split
    · rename_i n e he
      obtain ⟨C, rfl⟩ := agg_rep hx (.inl ⟨_, rfl⟩)
      refine ValOk.pure hS (v' := .int .i64 n) ?_ (rep0_of_pv (.int _ _))
      simp [Builtin.len_, run_underlying (arrayT_some he), goInt]
    · exact trivial
  · exact trivial

/-! ### new variables -/
theorem newVar_ok (hS : HOk P M0 S) {T : TypeId} {x : AV} {v : Value} {cs : List AV} (hx : Rep M0 S v x) (hc : x.cells = some cs) :
    ValOk P M0 S (do pure (.pointer (some (← newVar T v)))) (.val (.ptr S.h.length 1 0 0) (S.h ++ [.row cs.length [x]])) := by
  obtain ⟨hn, hr⟩ := rep_cells hx hc
  have e := Ev.new S.h.length M0 hS (Nat.le_refl _) (.row cs.length [x]) (.cells v.cells T)
  have hok : ObjOk P M0 (S.new (.row cs.length [x]) (.cells v.cells T)) (some S.w.heap.size) (.row cs.length [x]) := by
    refine .inr ⟨S.w.heap.size, T, v.cells, rfl, heap_alloc_eq _ _, by simp [hn], fun i y hy => ?_⟩
    cases i with
    | zero =>
      simp at hy; subst hy
      exact ⟨cs, hc, rfl, fun j c hj => ⟨(hr j c hj).1, by simpa using e.keepS (hr j c hj).2⟩⟩
    | succ i => simp at hy
  refine ⟨S.new (.row cs.length [x]) (.cells v.cells T), .pointer (some ⟨S.w.heap.size, 0, none⟩), rfl, ?_, e, HOk.new hS hok, ⟨_, rfl⟩, .inr ⟨cs.length, [x], ?_, by simp, fun _ => ⟨S.w.heap.size, ?_, by simp⟩⟩⟩
  · simp [newVar, newRow, Mem.new]
  · simp [Mem.new]
  · have := hS.len
    show (S.m ++ [some S.w.heap.size]).getD S.h.length none = _
    rw [← this]; simp

theorem zeroT_some {T : TypeId} {z : PV} (h : zeroT P T = some z) (w : World) : ∃ v, (zeroValue T).run P w = .ok v w ∧ constPV v = some z := by
  unfold zeroT at h
  cases hi : P.info? T with
  | none => simp [hi] at h
  | some i =>
    cases hz : i.zero with
    | none => simp [hi, hz] at h
    | some v =>
      simp [hi, hz] at h
      exact ⟨v, by simp [zeroValue, typeInfo, hi, hz], h⟩

theorem constCell_rep {M : Nat → Prop} {w : World} {v : Value} {q : PV} (h : constCell v = some q) : RepP M w v q ∧ q.isCell = true := by
  unfold constCell at h
  split at h <;> try (first | (cases h; done) | (cases h; first | exact ⟨.bool _, rfl⟩ | exact ⟨.int _ _, rfl⟩ | exact ⟨.str _, rfl⟩ | exact ⟨.nilptr, rfl⟩ | exact ⟨.nilslice, rfl⟩ | exact ⟨.nilfunc, rfl⟩ | exact ⟨.niliface, rfl⟩))
  · split at h
    · rename_i first cap hc
      cases h
      exact ⟨.func (by simp [hc.1]) (by simp [hc.2]) (fun i c hi => by simp at hi) (fun i c hi => by simp at hi), rfl⟩
    · cases h
theorem constCells_rep {M : Nat → Prop} {w : World} : ∀ {l : List Value} {qs : List PV}, constCells l = some qs → l.length = qs.length ∧ (∀ c, c ∈ qs → c.isCell = true) ∧ ∀ (i : Nat) (c : PV), qs[i]? = some c → RepP M w (l.getD i undef) c
  | [], qs, h => by simp [constCells] at h; subst h; exact ⟨rfl, fun c hc => by simp at hc, fun i c hi => by simp at hi⟩
  | v :: r, qs, h => by
    simp only [constCells] at h
    split at h
    · rename_i x l hx hl
      cases h
      obtain ⟨h1, h2, h3⟩ := constCells_rep (M := M) (w := w) hl
      obtain ⟨h4, h5⟩ := constCell_rep (M := M) (w := w) hx
      refine ⟨by simp [h1], fun c hc => ?_, fun i c hi => ?_⟩
      · rcases List.mem_cons.1 hc with rfl | hc
        · exact h5
        · exact h2 c hc
      · cases i with
        | zero => simp at hi; subst hi; simpa using h4
        | succ i => simpa using h3 i c (by simpa using hi)
    · cases h
theorem constPV_rep {M : Nat → Prop} {w : World} {v : Value} {q : PV} (h : constPV v = some q) : RepP M w v q := by
  unfold constPV at h
  split at h
  · split at h
    · rename_i cs l hl
      cases h
      obtain ⟨h1, h2, h3⟩ := constCells_rep (M := M) (w := w) hl
      exact .agg (by simpa using h1) h2 fun i c hi => by rw [← toList_getD]; exact h3 i c hi
    · cases h
  · split at h
    · rename_i cs l hl
      cases h
      obtain ⟨h1, h2, h3⟩ := constCells_rep (M := M) (w := w) hl
      exact .tuple (by simpa using h1) fun i c hi => by rw [← toList_getD]; exact h3 i c hi
    · cases h
  · exact (constCell_rep h).1

theorem alloc_ok (hS : HOk P M0 S) {T : TypeId} {z : PV} (hz : zeroT P T = some z) (hc : (AV.p z).cells.isSome = true) :
    ValOk P M0 S (Instr.alloc T true (.tuple #[])) (.val (.ptr S.h.length 1 0 0) (S.h ++ [.row z.cells.length [.p z]])) := by
  obtain ⟨v, hv, hcz⟩ := zeroT_some hz S.w
  obtain ⟨cs, hcs⟩ := Option.isSome_iff_exists.1 hc
  have hrep : Rep M0 S v (.p z) := constPV_rep hcz
  have hlen : cs.length = z.cells.length := by
    cases z with
    | tuple l => simp [AV.cells] at hcs
    | _ => (simp [AV.cells] at hcs; subst hcs; simp)
  obtain ⟨S', v', h1, h2, h3⟩ := newVar_ok (P := P) hS (T := T) hrep hcs
  refine ⟨S', v', by rw [h1, hlen], ?_, h3⟩
  simp only [Sem.run_bind] at h2
  unfold Instr.alloc
  simp only [Sem.run_bind, hv, Result.andThen_ok]
  exact h2

/-- a builder of one's own -/
theorem allocBld_ok (hS : HOk P M0 S) {T e : TypeId} (hz : zeroT P T = some (.agg [.nilptr, .nilslice])) :
    ValOk P M0 S (Instr.alloc T true (.tuple #[])) (.val (.ref .bl S.h.length) (S.h ++ [.bld T e (.p .nilslice)])) := by
  obtain ⟨v, hv, hcz⟩ := zeroT_some hz S.w
  have hrep : RepP (Avoid M0 S.m) S.w v (.agg [.nilptr, .nilslice]) := constPV_rep hcz
  obtain ⟨C, rfl, hC⟩ : ∃ C, v = .agg C ∧ C = #[.pointer none, .slice none 0 0] := by
    cases hrep with
    | agg hn hs hr =>
      rename_i C
      refine ⟨C, rfl, ?_⟩
      have h0 := hr 0 _ rfl
      have h1 := hr 1 _ rfl
      have hn2 : C.size = 2 := hn
      rw [Array.getD_eq_getD_getElem?] at h0 h1
      have g0 : C[0]? = some C[0] := by simp
      have g1 : C[1]? = some C[1] := by simp
      rw [g0] at h0
      rw [g1] at h1
      simp only [Option.getD_some] at h0 h1
      apply Array.ext
      · simpa using hn2
      · intro i hi hi'
        match i, hi, hi' with
        | 0, _, _ => generalize C[0] = x at h0; cases h0; rfl
        | 1, _, _ => generalize C[1] = x at h1; cases h1; rfl
  subst hC
  have hok : ObjOk P M0 (S.new (.bld T e (.p .nilslice)) (.cells #[.pointer none, .slice none 0 0] T (0, 0))) (some S.w.heap.size) (.bld T e (.p .nilslice)) :=
    ⟨_, _, _, rfl, heap_alloc_eq _ _, .inl rfl, .inl rfl, RepP.nilslice, fun a n c h => by cases h⟩
  refine ⟨S.new (.bld T e (.p .nilslice)) (.cells #[.pointer none, .slice none 0 0] T (0, 0)), .pointer (some ⟨S.w.heap.size, 0, none⟩), rfl, ?_, Ev.new _ M0 hS (Nat.le_refl _) _ _, HOk.new hS hok,
    ⟨_, rfl⟩, .inr ⟨⟨.bld T e (.p .nilslice), by simp [Mem.new], rfl⟩, S.w.heap.size, ?_, rfl⟩⟩
  · unfold Instr.alloc
    simp [hv, newVar, newRow, Mem.new, Value.cells]
  · show (S.m ++ [some S.w.heap.size]).getD S.h.length none = _
    rw [← hS.len]; simp

/-! ### slices of slices -/
theorem sub_length {α : Type} (o n : Nat) (l : List α) (h : o + n ≤ l.length) : (sub o n l).length = n := by simp [sub]; omega

theorem pslice_sub {M : Nat → Prop} {w : World} {b off sz l r : Nat} {xs : List PV} (f : Nat → Value) (hlr : l ≤ r) (hr' : r ≤ xs.length)
    (hsz : ∀ x, x ∈ xs → x.cells.length = sz ∧ ∀ c, c ∈ x.cells → c.isCell = true) (hM : xs.length * sz ≠ 0 → ¬ M b)
    (hc : ∀ k, k < xs.length * sz → w.cell? ⟨b, off + k, none⟩ = some (f k))
    (hr : ∀ (i j : Nat) (x c : PV), xs[i]? = some x → x.cells[j]? = some c → RepP M w (f (i * sz + j)) c)
    {cap : Nat} {full : Bool} (hcap : r - l ≤ cap) (hfull : full = true → cap = r - l) :
    RepP M w (.slice (some ⟨b, off + l * sz, none⟩) (r - l) cap) (.slice sz ((xs.take r).drop l) full) := by
  have hlen : ((xs.take r).drop l).length = r - l := by simp; omega
  have hget : ∀ (i : Nat) (x : PV), ((xs.take r).drop l)[i]? = some x → xs[l + i]? = some x ∧ i < r - l := by
    intro i x hi
    have h1 := (List.getElem?_eq_some_iff.1 hi).1
    rw [List.getElem?_drop, List.getElem?_take, if_pos (by omega)] at hi
    exact ⟨hi, by omega⟩
  have hmul : (r - l) * sz + l * sz ≤ xs.length * sz := by
    rw [← Nat.add_mul]
    exact Nat.mul_le_mul_right sz (by omega)
  refine .slice (fun k => f (l * sz + k)) (by omega) hcap hfull (fun x hx => ?_) (fun h => ?_) (fun k hk => ?_) (fun i j x c hx hj => ?_)
  · exact hsz x (List.mem_of_mem_take (List.mem_of_mem_drop hx))
  · refine hM fun e => h ?_
    rw [hlen]; omega
  · rw [hlen] at hk
    rw [← hc (l * sz + k) (by omega), Nat.add_assoc]
  · obtain ⟨h1, _⟩ := hget i x hx
    have := hr (l + i) j x c h1 hj
    rwa [Nat.add_mul, Nat.add_assoc] at this

theorem run_sliceBound {i : Int} {k : IntKind} {y : Nat} {code : BoundsCode} (h0 : 0 ≤ i) (h : i ≤ y) (w : World) : (Instr.sliceBound (.int k i) y code).run P w = .ok i.toNat w := by
  simp [Instr.sliceBound, asIntOf, h0, h]

theorem numOf_some {x : Option AV} {vx : Option Value} {n : Option Int} (hx : x.isSome = vx.isSome) (hr : ∀ a v, x = some a → vx = some v → Rep M0 S v a) (h : numOf x = some n) :
    (n = none ∧ vx = none) ∨ ∃ k i, n = some i ∧ vx = some (.int k i) := by
  cases x with
  | none =>
    simp [numOf] at h
    cases vx with
    | none => exact .inl ⟨h.symm, rfl⟩
    | some v => simp at hx
  | some a =>
    cases vx with
    | none => simp at hx
    | some v =>
      cases a with
      | p q =>
        cases q with
        | int k i =>
          simp [numOf] at h
          have := int_rep (hr _ _ rfl rfl)
          subst this
          exact .inr ⟨k, i, h.symm, rfl⟩
        | _ => simp [numOf] at h
      | _ => simp [numOf] at h

theorem cutAt_some {l r : Option Int} {len a b : Nat} (h : cutAt l r len = some (a, b)) : 0 ≤ l.getD 0 ∧ l.getD 0 ≤ r.getD len ∧ r.getD len ≤ len ∧ a = (l.getD 0).toNat ∧ b = (r.getD len).toNat := by
  unfold cutAt at h
  split at h
  · rename_i hc
    cases h
    exact ⟨hc.1, hc.2.1, hc.2.2, rfl, rfl⟩
  · cases h

theorem run_sliceBounds {l r m : Option Int} {vlo vhi vmx : Option Value} (n1 : (l = none ∧ vlo = none) ∨ ∃ k i, l = some i ∧ vlo = some (.int k i))
    (n2 : (r = none ∧ vhi = none) ∨ ∃ k i, r = some i ∧ vhi = some (.int k i)) (n3 : (m = none ∧ vmx = none) ∨ ∃ k i, m = some i ∧ vmx = some (.int k i))
    {isS : Bool} {len cap a b : Nat} (hc : cutAt l r len = some (a, b)) (hcap : len ≤ cap) (hm : m = none ∨ (isS = true ∧ m = r)) (w : World) :
    (Instr.sliceBounds isS len cap vlo vhi vmx).run P w = .ok (a, b, m.elim cap fun _ => b) w := by
  obtain ⟨h0, h1, h2, rfl, rfl⟩ := cutAt_some hc
  rcases n3 with ⟨rfl, rfl⟩ | ⟨k3, i3, rfl, rfl⟩
  · rcases n2 with ⟨rfl, rfl⟩ | ⟨k, i, rfl, rfl⟩ <;> rcases n1 with ⟨rfl, rfl⟩ | ⟨k', i', rfl, rfl⟩
    · simp [Instr.sliceBounds]
    · have := run_sliceBound (P := P) (k := k') (y := len) (code := .sliceB) (i := i') (by simpa using h0) (by simpa using h1) w
      simp [Instr.sliceBounds, this]
    · have := run_sliceBound (P := P) (k := k) (y := cap) (code := if isS then .sliceAcap else .sliceAlen) (i := i) (by simp at h0 h1; omega) (by simp at h2; omega) w
      simp [Instr.sliceBounds, this]
    · simp only [Option.getD_some] at h0 h1 h2
      have a1 := run_sliceBound (P := P) (k := k) (y := cap) (code := if isS then .sliceAcap else .sliceAlen) (i := i) (by omega) (by omega) w
      have a2 := run_sliceBound (P := P) (k := k') (y := i.toNat) (code := .sliceB) (i := i') h0 (by omega) w
      simp [Instr.sliceBounds, a1, a2]
  · rcases hm with h | ⟨rfl, rfl⟩
    · cases h
    · rcases n2 with ⟨h, _⟩ | ⟨k, i, h, rfl⟩
      · cases h
      · cases h
        have h1 : l.getD 0 ≤ i3 := h1
        have h2 : i3 ≤ (len : Int) := h2
        have h00 : 0 ≤ i3 := by omega
        have a3 := run_sliceBound (P := P) (k := k3) (y := cap) (code := .slice3Acap) (i := i3) h00 (by omega) w
        have a1 := run_sliceBound (P := P) (k := k) (y := i3.toNat) (code := .slice3B) (i := i3) h00 (by omega) w
        rcases n1 with ⟨rfl, rfl⟩ | ⟨k', i', rfl, rfl⟩
        · simp [Instr.sliceBounds, a1, a3]
        · simp only [Option.getD_some] at h0 h1
          have a2 := run_sliceBound (P := P) (k := k') (y := i3.toNat) (code := .slice3C) (i := i') h0 (by omega) w
          simp [Instr.sliceBounds, a1, a2, a3]

/-- with an upper number beyond the length -/
theorem run_sliceBoundsR {l : Option Int} {r : Int} {vlo vhi : Option Value} (n1 : (l = none ∧ vlo = none) ∨ ∃ k i, l = some i ∧ vlo = some (.int k i))
    (n2 : ∃ k, vhi = some (.int k r)) {len cap : Nat} (h0 : 0 ≤ l.getD 0) (h1 : l.getD 0 ≤ r) (h2 : r ≤ cap) (w : World) :
    (Instr.sliceBounds true len cap vlo vhi none).run P w = .ok ((l.getD 0).toNat, r.toNat, cap) w := by
  obtain ⟨k, rfl⟩ := n2
  rcases n1 with ⟨rfl, rfl⟩ | ⟨k', i', rfl, rfl⟩
  · have := run_sliceBound (P := P) (k := k) (y := cap) (code := .sliceAcap) (i := r) (by simp at h0 h1; omega) h2 w
    simp [Instr.sliceBounds, this]
  · simp only [Option.getD_some] at h0 h1
    have a1 := run_sliceBound (P := P) (k := k) (y := cap) (code := .sliceAcap) (i := r) (by omega) h2 w
    have a2 := run_sliceBound (P := P) (k := k') (y := r.toNat) (code := .sliceB) (i := i') h0 (by omega) w
    simp [Instr.sliceBounds, a1, a2]
theorem run_sliceBounds3 {l : Option Int} {r m : Int} {vlo vhi vmx : Option Value} (n1 : (l = none ∧ vlo = none) ∨ ∃ k i, l = some i ∧ vlo = some (.int k i))
    (n2 : ∃ k, vhi = some (.int k r)) (n3 : ∃ k, vmx = some (.int k m)) {len cap : Nat} (h0 : 0 ≤ l.getD 0) (h1 : l.getD 0 ≤ r) (h2 : r ≤ m) (h3 : m ≤ cap) (w : World) :
    (Instr.sliceBounds true len cap vlo vhi vmx).run P w = .ok ((l.getD 0).toNat, r.toNat, m.toNat) w := by
  obtain ⟨k, rfl⟩ := n2
  obtain ⟨k3, rfl⟩ := n3
  have a3 := run_sliceBound (P := P) (k := k3) (y := cap) (code := .slice3Acap) (i := m) (by omega) h3 w
  have a1 := run_sliceBound (P := P) (k := k) (y := m.toNat) (code := .slice3B) (i := r) (by omega) (by omega) w
  rcases n1 with ⟨rfl, rfl⟩ | ⟨k', i', rfl, rfl⟩
  · simp [Instr.sliceBounds, a1, a3]
  · simp only [Option.getD_some] at h0 h1
    have a2 := run_sliceBound (P := P) (k := k') (y := r.toNat) (code := .slice3C) (i := i') h0 (by omega) w
    simp [Instr.sliceBounds, a1, a2, a3]

theorem slice_ok (hS : HOk P M0 S) {T : TypeId} {x : AV} {v : Value} {lo hi mx : Option AV} {vlo vhi vmx : Option Value} (hx : Rep M0 S v x)
    (e1 : lo.isSome = vlo.isSome) (e2 : hi.isSome = vhi.isSome) (e3 : mx.isSome = vmx.isSome)
    (r1 : ∀ a v, lo = some a → vlo = some v → Rep M0 S v a) (r2 : ∀ a v, hi = some a → vhi = some v → Rep M0 S v a) (r3 : ∀ a v, mx = some a → vmx = some v → Rep M0 S v a) :
    ValOk P M0 S (Instr.sliceAt T v vlo vhi vmx) (aSlice P T x lo hi mx S.h) := by
  unfold aSlice
  split
  · rename_i l r m hl hr hm
    have n1 := numOf_some e1 r1 hl
    have n2 := numOf_some e2 r2 hr
    have n3 := numOf_some e3 r3 hm
    split
    · rename_i sz xs full
      split
      · rename_i e a b he hcut
        split
        · rename_i hsz
          have hu := sliceT_some he
          have h' : RepP (Avoid M0 S.m) S.w v (.slice sz xs full) := hx
          obtain ⟨h0, h1, h2, ha, hb⟩ := cutAt_some hcut
          have hab : a ≤ b ∧ b ≤ xs.length := by omega
          -- however it ends, the value
          have fin : ∀ (mm : Option Int) (fl : Bool), m = mm → (mm = none ∨ mm = r) → (fl = mm.elim (full && b == xs.length) fun _ => true) →
              ValOk P M0 S (Instr.sliceAt T v vlo vhi vmx) (.val (.p (.slice sz ((xs.take b).drop a) fl)) S.h) := by
            intro mm fl hmm hmr hfl
            subst hmm
            cases h' with
            | slice f hlen hcap hfull hs hM hcell hrr =>
              rename_i bl off len cap
              subst hlen
              have hrun := run_sliceBounds (P := P) (isS := true) (cap := cap) n1 n2 n3 hcut hcap (hmr.imp id fun e => ⟨rfl, e⟩) S.w
              generalize hM2 : (m.elim cap fun _ => b) = mc at hrun
              have hmc : b ≤ mc ∧ mc ≤ cap ∧ (fl = true → mc = b) := by
                subst hM2
                subst hfl
                cases m with
                | none =>
                  refine ⟨by simp; omega, Nat.le_refl _, fun e => ?_⟩
                  simp at e
                  simp
                  rw [hfull e.1, e.2]
                | some _ => exact ⟨Nat.le_refl _, by simp; omega, fun _ => rfl⟩
              refine ValOk.pure hS (v' := .slice (some (if mc = a then ⟨bl, off, none⟩ else ⟨bl, off + a * sz, none⟩)) (b - a) (mc - a)) ?_ (rep0_of_pv ?_)
              · simp only [Instr.sliceAt, Instr.slice, Sem.run_bind, run_underlying hu, Result.andThen_ok, hrun, run_sizeT hsz, Sem.run_pure]
                by_cases hz : mc = a <;> simp [hz, add_none]
              · by_cases hz : mc = a
                · have : (xs.take b).drop a = [] := by simp; omega
                  rw [this, if_pos hz, show b - a = 0 by omega]
                  exact .empty fun _ => by omega
                · rw [if_neg hz]
                  exact pslice_sub f hab.1 hab.2 hs hM hcell hrr (by omega) fun e => by have := hmc.2.2 e; omega
            | empty hfull =>
              rename_i ad cap
              have ha0 : a = 0 := by have := hab.1; have := hab.2; simp at this; omega
              have hb0 : b = 0 := by have := hab.2; simp at this; omega
              subst ha0; subst hb0
              have hrun := run_sliceBounds (P := P) (isS := true) (len := 0) (cap := cap) n1 n2 n3 hcut (Nat.zero_le _) (hmr.imp id fun e => ⟨rfl, e⟩) S.w
              generalize hM2 : (m.elim cap fun _ => 0) = mc at hrun
              refine ValOk.pure hS (v' := .slice (if mc = 0 then ad else ad.map (·.add (0 * sz))) (0 - 0) (mc - 0)) ?_ (rep0_of_pv ?_)
              · simp only [Instr.sliceAt, Instr.slice, Sem.run_bind, run_underlying hu, Result.andThen_ok, hrun, run_sizeT hsz, Sem.run_pure]
              · simp only [List.take_nil, List.drop_nil, Nat.sub_self]
                refine .empty fun e => ?_
                subst hfl
                cases m with
                | none => simp at hM2 e; subst hM2; have := hfull e; omega
                | some _ => simp at hM2; omega
          split
          · exact fin none _ rfl (.inl rfl) rfl
          · rename_i mm
            split
            · rename_i hrm
              exact fin (some mm) _ rfl (.inr hrm.symm) rfl
            · exact trivial
        · exact trivial
      · exact trivial
    · rename_i id ver off len
      split
      · rename_i e sz xs a b he hid hcut
        split
        · rename_i hc
          obtain ⟨hsz, hv⟩ := hc
          have hu := sliceT_some he
          obtain ⟨h0, h1, h2, ha, hb⟩ := cutAt_some hcut
          have hab : a ≤ b ∧ b ≤ len := by omega
          rcases live_row hx.2 hid hv with ⟨rfl, hv0, hoff, ad, cap, rfl⟩ | ⟨bl, cap, T', n, hmb, rfl, hcap, hsh, hroom, hreach⟩ | ⟨hmn, rfl, rfl⟩
          · have hrun : (Instr.sliceBounds true 0 cap vlo vhi vmx).run P S.w = .ok (a, b, cap) S.w := run_sliceBounds (P := P) (isS := true) (len := 0) (cap := cap) n1 n2 n3 hcut (Nat.zero_le _) (.inl rfl) S.w
            refine ValOk.pure hS (v' := .slice (if cap = a then ad else ad.map (·.add (a * sz))) (b - a) (cap - a)) ?_ ⟨⟨_, _, _, rfl⟩, .inr ⟨sz, xs, hid, by omega, fun _ => .inl ⟨by omega, hv0, by omega, _, _, by rw [show b - a = 0 by omega]⟩⟩⟩
            simp only [Instr.sliceAt, Instr.slice, Sem.run_bind, run_underlying hu, Result.andThen_ok, hrun, run_sizeT hsz, Sem.run_pure]
          · have hrun : (Instr.sliceBounds true len cap vlo vhi vmx).run P S.w = .ok (a, b, cap) S.w := run_sliceBounds (P := P) (isS := true) (cap := cap) n1 n2 n3 hcut hcap.1 (.inl rfl) S.w
            refine ValOk.pure hS (v' := .slice (some (if cap = a then ⟨bl, off * sz, none⟩ else ⟨bl, (off + a) * sz, none⟩)) (b - a) (cap - a)) ?_ ⟨⟨_, _, _, rfl⟩, .inr ⟨sz, xs, hid, by omega, fun _ => ?_⟩⟩
            · simp only [Instr.sliceAt, Instr.slice, Sem.run_bind, run_underlying hu, Result.andThen_ok, hrun, run_sizeT hsz, Sem.run_pure]
              by_cases hz : cap = a <;> simp [hz, add_none, Nat.add_mul]
            · by_cases hca : cap = a
              · by_cases ha0 : a = 0
                · subst ha0
                  rw [if_pos hca]
                  have hb0 : b = 0 := by have := hcap.1; omega
                  subst hb0
                  exact .inr (.inl ⟨bl, cap - 0, T', n, hmb, by simp, ⟨by omega, by omega⟩, hsh, by simpa using hroom, by omega⟩)
                · by_cases hv0 : ver = 0
                  · exfalso
                    have := hcap.2
                    omega
                  · exact .inl ⟨by omega, hv0, by have := hcap.2; omega, _, _, by rw [show b - a = 0 by omega]⟩
              · rw [if_neg hca]
                have hcl := hcap.1
                have hco := hcap.2
                refine .inr (.inl ⟨bl, cap - a, T', n, hmb, rfl, ⟨by omega, by omega⟩, hsh, ?_⟩)
                rw [show off + a + (cap - a) = off + cap by omega]
                exact ⟨hroom, hreach⟩
          · have hrun : (Instr.sliceBounds true 0 0 vlo vhi vmx).run P S.w = .ok (a, b, 0) S.w := run_sliceBounds (P := P) (isS := true) (len := 0) (cap := 0) n1 n2 n3 hcut (Nat.le_refl _) (.inl rfl) S.w
            refine ValOk.pure hS (v' := .slice none 0 0) ?_ ⟨⟨_, _, _, rfl⟩, .inr ⟨sz, xs, hid, by omega, fun _ => .inr (.inr ⟨hmn, rfl, by omega⟩)⟩⟩
            simp only [Instr.sliceAt, Instr.slice, Sem.run_bind, run_underlying hu, Result.andThen_ok, hrun, run_sizeT hsz, Sem.run_pure]
            simp [show a = 0 by omega, show b = 0 by omega]
        · exact trivial
      · rename_i e sz xs mm he hid
        split
        · rename_i hc
          obtain ⟨hsz, hv, hrs, c0, c1, c2, c3⟩ := hc
          have hu := sliceT_some he
          obtain ⟨rr, rfl⟩ := Option.isSome_iff_exists.1 hrs
          simp only [Option.getD_some] at c1 c2
          have k2 : ∃ k, vhi = some (.int k rr) := by
            rcases n2 with ⟨h, _⟩ | ⟨k, i, h, h'⟩
            · cases h
            · cases h; exact ⟨k, h'⟩
          have k3 : ∃ k, vmx = some (.int k mm) := by
            rcases n3 with ⟨h, _⟩ | ⟨k, i, h, h'⟩
            · cases h
            · cases h; exact ⟨k, h'⟩
          have fin : ∀ (ad : Option Addr) (ln cap : Nat), v = .slice ad ln cap → mm ≤ cap → ValOk P M0 S (Instr.sliceAt T v vlo vhi vmx) (.val .undef S.h) := by
            intro ad ln cap hvv hle
            subst hvv
            have hrun := run_sliceBounds3 (P := P) (len := ln) n1 k2 k3 c0 c1 c2 hle S.w
            refine ValOk.pure hS (v' := .slice (if mm.toNat = (l.getD 0).toNat then ad else ad.map (·.add ((l.getD 0).toNat * sz))) (rr.toNat - (l.getD 0).toNat) (mm.toNat - (l.getD 0).toNat)) ?_ trivial
            simp only [Instr.sliceAt, Instr.slice, Sem.run_bind, run_underlying hu, Result.andThen_ok, hrun, run_sizeT hsz, Sem.run_pure]
          rcases live_row hx.2 hid hv with ⟨rfl, hv0, hoff, ad, cap, rfl⟩ | ⟨bl, cap, T', n, hmb, rfl, hcap, hsh, hroom, hreach⟩ | ⟨hmn, rfl, rfl⟩
          · exact fin _ _ _ rfl (by omega)
          · exact fin _ _ _ rfl (by omega)
          · refine fin _ _ _ rfl ?_
            have h0 := hS.obj id _ hid
            rw [hmn] at h0
            rcases h0 with ⟨_, rfl⟩ | ⟨b, _, _, h, _⟩
            · simp at hv; omega
            · cases h
        · exact trivial
      · rename_i e sz xs he hid _
        split
        · rename_i hc
          obtain ⟨hsz, hv, hrs, c0, c1, c3⟩ := hc
          have hu := sliceT_some he
          obtain ⟨rr, rfl⟩ := Option.isSome_iff_exists.1 hrs
          simp only [Option.getD_some] at c1 c3 ⊢
          have k2 : ∃ k, vhi = some (.int k rr) := by
            rcases n2 with ⟨h, _⟩ | ⟨k, i, h, h'⟩
            · cases h
            · cases h; exact ⟨k, h'⟩
          have k3 : vmx = none := by
            rcases n3 with ⟨_, h⟩ | ⟨k, i, h, h'⟩
            · exact h
            · cases h
          subst k3
          generalize ha : (l.getD 0).toNat = a
          generalize hb : rr.toNat = b
          rcases live_row hx.2 hid hv with ⟨rfl, hv0, hoff, ad, cap, rfl⟩ | ⟨bl, cap, T', n, hmb, rfl, hcap, hsh, hroom, hreach⟩ | ⟨hmn, rfl, rfl⟩
          · have hrun := run_sliceBoundsR (P := P) (len := 0) (cap := cap) n1 k2 c0 c1 (by omega) S.w
            rw [ha, hb] at hrun
            refine ValOk.pure hS (v' := .slice (if cap = a then ad else ad.map (·.add (a * sz))) (b - a) (cap - a)) ?_ ⟨⟨_, _, _, rfl⟩, .inr ⟨sz, xs, hid, by omega, fun _ => .inl ⟨by omega, hv0, by omega, _, _, by rw [show b - a = 0 by omega]⟩⟩⟩
            simp only [Instr.sliceAt, Instr.slice, Sem.run_bind, run_underlying hu, Result.andThen_ok, hrun, run_sizeT hsz, Sem.run_pure]
          · have hrun := run_sliceBoundsR (P := P) (len := len) (cap := cap) n1 k2 c0 c1 (by omega) S.w
            rw [ha, hb] at hrun
            refine ValOk.pure hS (v' := .slice (some (if cap = a then ⟨bl, off * sz, none⟩ else ⟨bl, (off + a) * sz, none⟩)) (b - a) (cap - a)) ?_ ⟨⟨_, _, _, rfl⟩, .inr ⟨sz, xs, hid, by omega, fun _ => ?_⟩⟩
            · simp only [Instr.sliceAt, Instr.slice, Sem.run_bind, run_underlying hu, Result.andThen_ok, hrun, run_sizeT hsz, Sem.run_pure]
              by_cases hz : cap = a <;> simp [hz, add_none, Nat.add_mul]
            · by_cases hca : cap = a
              · by_cases hv0 : ver = 0
                · refine .inr (.inl ⟨bl, cap - a, T', n, hmb, ?_, ⟨by omega, by omega⟩, hsh, ?_, by omega⟩)
                  · rw [if_pos hca, show off + a = off by omega]
                  · rw [show off + a + (cap - a) = off + cap by omega]; exact hroom
                · exact .inl ⟨by omega, hv0, by omega, _, _, by rw [show b - a = 0 by omega]⟩
              · rw [if_neg hca]
                refine .inr (.inl ⟨bl, cap - a, T', n, hmb, rfl, ⟨by omega, by omega⟩, hsh, ?_⟩)
                rw [show off + a + (cap - a) = off + cap by omega]
                exact ⟨hroom, by omega⟩
          · have h0 := hS.obj id _ hid
            rw [hmn] at h0
            rcases h0 with ⟨_, rfl⟩ | ⟨b, _, _, h, _⟩
            · have hrun := run_sliceBoundsR (P := P) (len := 0) (cap := 0) n1 k2 c0 c1 (by simp at hv; omega) S.w
              rw [ha, hb] at hrun
              have ha0 : a = 0 := by simp at hv; omega
              have hb0 : b = 0 := by simp at hv; omega
              refine ValOk.pure hS (v' := .slice none 0 0) ?_ ⟨⟨_, _, _, rfl⟩, .inr ⟨sz, [], hid, by omega, fun _ => .inr (.inr ⟨hmn, rfl, by omega⟩)⟩⟩
              simp only [Instr.sliceAt, Instr.slice, Sem.run_bind, run_underlying hu, Result.andThen_ok, hrun, run_sizeT hsz, Sem.run_pure]
              simp [ha0, hb0]
            · cases h
        · exact trivial
      · exact trivial
    · rename_i s
      split
      · rename_i a b hcut
        split
        · rename_i hst
          have h' : RepP (Avoid M0 S.m) S.w v (.str s) := hx
          cases h'
          have hrun : (Instr.sliceBounds false s.size s.size vlo vhi vmx).run P S.w = .ok (a, b, s.size) S.w := run_sliceBounds (P := P) (isS := false) (cap := s.size) n1 n2 n3 hcut (Nat.le_refl _) (.inl rfl) S.w
          have hmx : vmx = none := by
            rcases n3 with ⟨_, h⟩ | ⟨_, _, h, _⟩
            · exact h
            · cases h
          subst hmx
          refine ValOk.pure hS (v' := .string (s.extract a b)) ?_ (rep0_of_pv (.str _))
          simp [Instr.sliceAt, Instr.slice, run_underlying (isStringT_some hst), hrun]
        · exact trivial
      · exact trivial
    · split
      · rename_i e ab he hcut
        split
        · rename_i hs
          obtain ⟨sz, hsz⟩ := Option.isSome_iff_exists.1 hs
          obtain ⟨a, b⟩ := ab
          obtain ⟨h0, h1, h2, ha, hb⟩ := cutAt_some hcut
          have h' : RepP (Avoid M0 S.m) S.w v .nilslice := hx
          cases h'
          have hrun : (Instr.sliceBounds true 0 0 vlo vhi vmx).run P S.w = .ok (a, b, 0) S.w := run_sliceBounds (P := P) (isS := true) (len := 0) (cap := 0) n1 n2 n3 hcut (Nat.le_refl _) (.inl rfl) S.w
          refine ValOk.pure hS (v' := .slice none 0 0) ?_ (rep0_of_pv .nilslice)
          simp only [Instr.sliceAt, Instr.slice, Sem.run_bind, run_underlying (sliceT_some he), Result.andThen_ok, hrun, run_sizeT hsz, Sem.run_pure]
          simp [show a = 0 by omega, show b = 0 by omega]
        · exact trivial
      · exact trivial
    · exact trivial
  · exact trivial

end Abs
end Go.Proofs.YtdellinghbppgaaGreatDoor

namespace Go.Proofs.YtdellinghbppgaaGreatDoor
namespace Abs
variable {P : Program} {M0 : Nat → Prop} {S : Mem}

/-! ### literals of structs and arrays -/
theorem foldl_ovr : ∀ (vs : List Value) (off k : Nat) (C : Array Value), (vs.zipIdx k).foldl (fun cs (c, j) => cs.setIfInBounds (off + j) c) C = ovr C (off + k) vs
  | [], _, _, _ => rfl
  | v :: r, off, k, C => by
    simp only [List.zipIdx_cons, List.foldl_cons, ovr]
    rw [foldl_ovr r off (k + 1)]
    rfl

theorem fill_ok {place : Nat → Option (Nat × Nat)} : ∀ {ps : List (Nat × AV)} {vs : List (Nat × Value)} {cs cs' : List AV} {C : Array Value},
    ps.length = vs.length → (∀ (i : Nat) p q, ps[i]? = some p → vs[i]? = some q → p.1 = q.1 ∧ Rep M0 S q.2 p.2) → C.size = cs.length → CellsRep M0 S (fun j => C.getD j undef) cs →
    aFill place ps cs = some cs' → ∃ C', Instr.fill place C vs = some C' ∧ C'.size = cs'.length ∧ CellsRep M0 S (fun j => C'.getD j undef) cs'
  | [], [], cs, cs', C, _, _, hn, hr, h => by
    simp [aFill] at h; subst h
    exact ⟨C, rfl, hn, hr⟩
  | [], _ :: _, _, _, _, hl, _, _, _, _ => by simp at hl
  | _ :: _, [], _, _, _, hl, _, _, _, _ => by simp at hl
  | (i, x) :: ps, (i', v) :: vs, cs, cs', C, hl, hp, hn, hr, h => by
    obtain ⟨h1, h2⟩ := hp 0 (i, x) (i', v) rfl rfl
    simp only at h1 h2
    subst h1
    simp only [aFill] at h
    split at h
    · rename_i off n new hpl hc
      split at h
      · rename_i hcond
        obtain ⟨hn1, hn2⟩ := hcond
        obtain ⟨hv, hvr⟩ := rep_cells h2 hc
        have hf : Instr.fill place C ((i, v) :: vs) = Instr.fill place (ovr C off v.cells.toList) vs := by
          simp only [Instr.fill, hpl]
          rw [if_neg (by simp; omega)]
          congr 1
          rw [← Array.foldl_toList, Array.toList_zipIdx]
          have := foldl_ovr v.cells.toList off 0 C
          simpa using this
        rw [hf]
        have hlen : v.cells.toList.length = new.length := by simpa using hv
        refine fill_ok (by simpa using hl) (fun k p q h3 h4 => hp (k + 1) p q (by simpa using h3) (by simpa using h4)) (by rw [size_ovr, putCells_length _ _ _ (by omega)]; exact hn) ?_ h
        intro j c hj
        have hjl := (List.getElem?_eq_some_iff.1 hj).1
        rw [putCells_get _ _ _ _ (by omega)] at hj
        show c.isCell = true ∧ RepS M0 S ((ovr C off v.cells.toList).getD j undef) c
        rw [getD_ovr _ _ _ _ (by omega)]
        split at hj
        · rename_i hjj
          rw [if_pos (by omega), toList_getD]
          exact hvr (j - off) c hj
        · rename_i hjj
          rw [if_neg (by omega)]
          exact hr j c hj
      · cases h
    · cases h

theorem build_ok (hS : HOk P M0 S) {T : TypeId} {ps : List (Nat × AV)} {vs : Array (Nat × Value)} (hl : ps.length = vs.toList.length)
    (hp : ∀ (i : Nat) p q, ps[i]? = some p → vs.toList[i]? = some q → p.1 = q.1 ∧ Rep M0 S q.2 p.2) : ValOk P M0 S (Instr.build T vs) (aBuild P T ps S.h) := by
  unfold aBuild
  split
  · rename_i z hz
    -- the zero value's cells
    have hzero : ∃ it zv, P.info? T = some it ∧ it.zero = some zv ∧ zv.cells.size = (z.map AV.p).length ∧ CellsRep M0 S (fun j => zv.cells.getD j undef) (z.map .p) := by
      unfold zeroT at hz
      cases hi : P.info? T with
      | none => simp [hi] at hz
      | some it =>
        cases hzz : it.zero with
        | none => simp [hi, hzz] at hz
        | some zv =>
          simp [hi, hzz] at hz
          have hrep : Rep M0 S zv (.p (.agg z)) := constPV_rep hz
          obtain ⟨h1, h2⟩ := rep_cells hrep (cs := z.map .p) rfl
          exact ⟨it, zv, rfl, hzz, h1, h2⟩
    obtain ⟨it, zv, hi, hzz, hzn, hzr⟩ := hzero
    split
    · rename_i pl hpl
      split
      · rename_i cs hcs
        obtain ⟨C', h1, h2, h3⟩ := fill_ok hl hp hzn hzr hcs
        have hb : P.built T vs.toList = some C' := by
          unfold placesT at hpl
          split at hpl
          · rename_i fs hu
            unfold Program.built
            simp only [hi, hu, hzz, hpl]
            simpa using h1
          · cases hpl
        exact ValOk.pure hS (run_build S.w T vs C' hb) (rep_of_A (mkAgg_rep h2 h3))
      · exact trivial
    · split
      · rename_i n e he
        split
        · rename_i s hs
          split
          · rename_i cs hcs
            obtain ⟨C', h1, h2, h3⟩ := fill_ok hl hp hzn hzr hcs
            have hb : P.built T vs.toList = some C' := by
              unfold sizeT at hs
              cases hie : P.info? e with
              | none => simp [hie] at hs
              | some ie =>
                simp [hie] at hs
                subst hs
                unfold Program.built
                simp only [hi, arrayT_some he, hzz, hie]
                exact h1
            exact ValOk.pure hS (run_build S.w T vs C' hb) (rep_of_A (mkAgg_rep h2 h3))
          · exact trivial
        · exact trivial
      · exact trivial
  · exact trivial

/-! ### memory that nobody names -/
def Mem.junk (S : Mem) (ob : Obj) : Mem := ⟨S.m, S.h, S.w.alloc ob⟩
theorem Ev.junk (base : Nat) (S : Mem) (ob : Obj) : Ev base S (S.junk ob) := ⟨Fr.alloc _ _ _, fun _ h => .inl h, fun _ o _ h => ⟨o, h, ObjEv.refl _ _⟩⟩
theorem HOk.junk (hS : HOk P M0 S) (ob : Obj) : HOk P M0 (S.junk ob) where
  len := hS.len
  lt := fun b h => by have := hS.lt b h; simp [Mem.junk]; omega
  m0 := fun b h => by obtain ⟨h1, h2⟩ := hS.m0 b h; exact ⟨by simp [Mem.junk]; omega, h2⟩
  inj := hS.inj
  gl := (Ev.junk 0 S ob).glob hS.gl
  obj := fun id o h => (hS.obj id o h).keep (Ev.junk _ S ob) fun b hb => heap_alloc_lt _ _ _ (hS.lt b (own_of_getD hb).1)

theorem hasZero_some {T : TypeId} {n : Nat} (h : hasZero P T n = true) (w : World) : ∃ z, (zeroValue T).run P w = .ok z w ∧ z.cells.size = n := by
  unfold hasZero at h
  cases hi : P.info? T with
  | none => simp [hi] at h
  | some i =>
    cases hz : i.zero with
    | none => simp [hi, hz] at h
    | some v => simp [hi, hz] at h; exact ⟨v, by simp [zeroValue, typeInfo, hi, hz], h⟩

/-! ### slice literals -/
theorem elems_ok {sz : Nat} : ∀ {ps : List (Nat × AV)} {vs : List (Nat × Value)} {i : Nat} {xs : List AV} {C : Array Value},
    ps.length = vs.length → (∀ (i : Nat) p q, ps[i]? = some p → vs[i]? = some q → p.1 = q.1 ∧ Rep M0 S q.2 p.2) → aElems i sz ps = some xs → (i + xs.length) * sz ≤ C.size →
    ∃ C', Instr.fill (fun i => some (i * sz, sz)) C vs = some C' ∧ C'.size = C.size ∧ (∀ k, k < i * sz → C'.getD k undef = C.getD k undef) ∧
      ∀ (j : Nat) (x : AV), xs[j]? = some x → ∃ cs, x.cells = some cs ∧ cs.length = sz ∧ ∀ (l : Nat) (c : AV), cs[l]? = some c → c.isCell = true ∧ RepS M0 S (C'.getD ((i + j) * sz + l) undef) c
  | [], [], i, xs, C, _, _, h, _ => by
    simp [aElems] at h; subst h
    exact ⟨C, rfl, rfl, fun _ _ => rfl, fun j x hj => by simp at hj⟩
  | [], _ :: _, _, _, _, hl, _, _, _ => by simp at hl
  | _ :: _, [], _, _, _, hl, _, _, _ => by simp at hl
  | (i', x) :: ps, (i'', v) :: vs, i, xs, C, hl, hp, h, hC => by
    obtain ⟨h1, h2⟩ := hp 0 (i', x) (i'', v) rfl rfl
    simp only at h1 h2
    subst h1
    simp only [aElems] at h
    split at h
    · rename_i hcond
      obtain ⟨rfl, hcl⟩ := hcond
      cases hxc : x.cells with
      | none => simp [hxc] at hcl
      | some cs =>
        simp [hxc] at hcl
        split at h
        · rename_i l hlr
          cases h
          obtain ⟨hv, hvr⟩ := rep_cells h2 hxc
          have hC' : (i + 1 + l.length) * sz ≤ C.size := by simpa [Nat.add_comm, Nat.add_left_comm, Nat.add_assoc] using hC
          have hi1 : (i + 1) * sz ≤ C.size := Nat.le_trans (Nat.mul_le_mul_right sz (by omega)) hC'
          have hi2 : (i + 1) * sz = i * sz + sz := by rw [Nat.add_mul, Nat.one_mul]
          have hlen : v.cells.toList.length = sz := by simp; omega
          have hf : Instr.fill (fun i => some (i * sz, sz)) C ((i, v) :: vs) = Instr.fill (fun i => some (i * sz, sz)) (ovr C (i * sz) v.cells.toList) vs := by
            simp only [Instr.fill]
            rw [if_neg (by simp at hlen; simp; omega)]
            congr 1
            rw [← Array.foldl_toList, Array.toList_zipIdx]
            have := foldl_ovr v.cells.toList (i * sz) 0 C
            simpa using this
          obtain ⟨C', g1, g2, g3, g4⟩ := elems_ok (C := ovr C (i * sz) v.cells.toList) (i := i + 1) (by simpa using hl) (fun k p q h3 h4 => hp (k + 1) p q (by simpa using h3) (by simpa using h4)) hlr (by rw [size_ovr]; exact hC')
          refine ⟨C', by rw [hf]; exact g1, by rw [g2, size_ovr], fun k hk => ?_, fun j y hj => ?_⟩
          · rw [g3 k (by omega), getD_ovr _ _ _ _ (by omega), if_neg (by omega)]
          · cases j with
            | zero =>
              simp at hj; subst hj
              refine ⟨cs, hxc, hcl, fun l' c hc => ?_⟩
              have hll := (List.getElem?_eq_some_iff.1 hc).1
              rw [Nat.add_zero, g3 _ (by omega), getD_ovr _ _ _ _ (by omega), if_pos (by omega), toList_getD, show i * sz + l' - i * sz = l' by omega]
              exact hvr l' c hc
            | succ j =>
              obtain ⟨cs', a1, a2, a3⟩ := g4 j y (by simpa using hj)
              refine ⟨cs', a1, a2, fun l' c hc => ?_⟩
              have := a3 l' c hc
              rwa [show i + 1 + j = i + (j + 1) by omega] at this
        · cases h
    · cases h

theorem pures_get {xs : List AV} {l : List PV} (h : pures xs = some l) {i : Nat} {q : PV} (hi : l[i]? = some q) : xs[i]? = some (.p q) := by
  rw [pures_some h]; simp [hi]

/-- a new row that is not written any more -/
theorem pslice_new {sz n b : Nat} {xs : List AV} {l : List PV} {C : Array Value} {T : TypeId} {w : World} {M : Nat → Prop} (hl : pures xs = some l) (hn : xs.length = n) (hb : w.heap[b]? = some (.cells C T (0, 0))) (hM : ¬ M b)
    (hsize : n * sz ≤ C.size) (hel : ∀ (i : Nat) (x : AV), xs[i]? = some x → ∃ cs, x.cells = some cs ∧ cs.length = sz ∧ ∀ (j : Nat) (c : AV), cs[j]? = some c → c.isCell = true ∧ ∀ q, c = .p q → RepP M w (C.getD (i * sz + j) undef) q) :
    RepP M w (.slice (some ⟨b, 0, none⟩) n n) (.slice sz l true) := by
  have hxl : l.length = n := by rw [pures_some hl] at hn; simpa using hn
  have helem : ∀ (i : Nat) (q : PV), l[i]? = some q → (q.cells.length = sz ∧ ∀ c, c ∈ q.cells → c.isCell = true) ∧ ∀ (j : Nat) (c : PV), q.cells[j]? = some c → RepP M w (C.getD (i * sz + j) undef) c := by
    intro i q hi
    obtain ⟨cs, h1, h2, h3⟩ := hel i _ (pures_get hl hi)
    have hcs : cs = q.cells.map .p := by
      cases q with
      | tuple l => simp [AV.cells] at h1
      | _ => (simp [AV.cells] at h1; exact h1.symm)
    subst hcs
    refine ⟨⟨by simpa using h2, fun c hc => ?_⟩, fun j c hj => ?_⟩
    · obtain ⟨j, hj⟩ := List.getElem?_of_mem hc
      exact (h3 j (.p c) (by simp [hj])).1
    · exact (h3 j (.p c) (by simp [hj])).2 c rfl
  refine .slice (fun k => C.getD k undef) (by omega) (Nat.le_refl _) (fun _ => rfl) (fun x hx => ?_) (fun _ => hM) (fun k hk => ?_) (fun i j x c hx hj => (helem i x hx).2 j c hj)
  · obtain ⟨i, hi⟩ := List.getElem?_of_mem hx
    exact (helem i x hi).1
  · rw [Nat.zero_add]
    exact cell_block hb k (by rw [hxl] at hk; omega)

theorem buildSlice_ok (hS : HOk P M0 S) {T : TypeId} {mu : Bool} {n : Nat} {ps : List (Nat × AV)} {vs : Array (Nat × Value)} (hl : ps.length = vs.toList.length)
    (hp : ∀ (i : Nat) p q, ps[i]? = some p → vs.toList[i]? = some q → p.1 = q.1 ∧ Rep M0 S q.2 p.2) : ValOk P M0 S (Instr.buildSlice T n vs) (aBuildSlice P T mu n ps S.h) := by
  unfold aBuildSlice
  split
  · rename_i e he
    split
    · rename_i sz hsz
      split
      · rename_i xs hxs
        split
        · rename_i hc
          obtain ⟨hxn, hsz0, hroom, hz⟩ := hc
          have hu := sliceT_some he
          obtain ⟨z, hzr, hzs⟩ := hasZero_some hz S.w
          have hzz : ∃ zz : Array Value, (if n * sz = 0 then (pure #[] : Sem (Array Value)) else do pure (← zeroValue e).cells).run P S.w = .ok zz S.w := by
            by_cases h0 : n * sz = 0
            · exact ⟨#[], by rw [if_pos h0]; rfl⟩
            · exact ⟨z.cells, by rw [if_neg h0]; simp [hzr]⟩
          obtain ⟨zz, hzz⟩ := hzz
          obtain ⟨C', g1, g2, _, g4⟩ := elems_ok (C := (Array.range (n * sz)).map (zz[· % zz.size]!)) (i := 0) hl hp hxs (by simp [hxn])
          simp only [Nat.zero_add] at g4
          have hsize : C'.size = n * sz := by rw [g2]; simp
          have hrun : (Instr.buildSlice T n vs).run P S.w = .ok (.slice (some ⟨S.w.heap.size, 0, none⟩) n n) (S.w.alloc (.cells C' e)) := by
            unfold Instr.buildSlice
            simp only [Sem.run_bind, run_underlying hu, Result.andThen_ok, run_sizeT hsz]
            rw [if_neg (by omega)]
            by_cases h0 : n * sz = 0
            · rw [if_pos h0] at hzz ⊢
              simp only [Sem.run_pure, Result.ok.injEq, and_true] at hzz
              subst hzz
              simp only [Sem.run_bind, Sem.run_pure, Result.andThen_ok, g1]
              simp [newRow]
            · rw [if_neg h0] at hzz ⊢
              simp only [Sem.run_bind, hzr, Result.andThen_ok, Sem.run_pure, Result.ok.injEq, and_true] at hzz
              subst hzz
              simp only [Sem.run_bind, hzr, Sem.run_pure, Result.andThen_ok, g1]
              simp [newRow]
          split
          · rename_i hmu hpl
            rename_i l _
            refine ⟨S.junk (.cells C' e), _, rfl, hrun, Ev.junk _ _ _, HOk.junk hS _, ?_⟩
            refine pslice_new hpl hxn (T := e) (heap_alloc_eq _ _) (fun h => ?_) (by omega) (fun i x hx => ?_)
            · rcases h with h | h
              · have := (hS.m0 _ h).1; omega
              · have := hS.lt _ h; omega
            · obtain ⟨cs, a1, a2, a3⟩ := g4 i x hx
              refine ⟨cs, a1, a2, fun j c hj => ⟨(a3 j c hj).1, fun q hq => ?_⟩⟩
              subst hq
              exact (Ev.junk 0 S (.cells C' e)).repP (a3 j _ hj).2
          · refine ⟨S.new (.row sz xs) (.cells C' e), _, rfl, hrun, Ev.new _ _ hS (Nat.le_refl _) _ _, HOk.new hS (.inr ⟨_, e, C', rfl, heap_alloc_eq _ _, by rw [hxn]; omega, ?_⟩), ⟨_, _, _, rfl⟩, .inr ⟨sz, xs, by simp [Mem.new], by omega, fun _ => .inr (.inl ⟨S.w.heap.size, n, e, C'.size, ?_, by simp, ⟨Nat.le_refl _, by omega⟩, ?_, by simp; omega, by omega⟩)⟩⟩
            · exact ElemsOk.keep (Ev.new _ _ hS (Nat.le_refl _) _ _) g4
            · have := hS.len
              show (S.m ++ [some S.w.heap.size]).getD S.h.length none = _
              rw [← this]; simp
            · show (S.w.alloc (.cells C' e)).shape? S.w.heap.size = _
              unfold World.shape?
              rw [heap_alloc_eq]
        · exact trivial
      · exact trivial
    · exact trivial
  · exact trivial

end Abs
end Go.Proofs.YtdellinghbppgaaGreatDoor

namespace Go.Proofs.YtdellinghbppgaaGreatDoor
namespace Abs
set_option linter.unusedSimpArgs false
variable {P : Program} {M0 : Nat → Prop} {S : Mem}

theorem growBy_le (need : Nat) : ∀ (r c : Nat), c ≤ 2 * need + 512 → Builtin.growBy need r c ≤ 2 * need + 512
  | 0, c, h => h
  | r + 1, c, h => by
    unfold Builtin.growBy
    split
    · exact h
    · rename_i h'
      exact growBy_le need r _ (by omega)
theorem nextslicecap_le (need old : Nat) (h : old ≤ need) : Builtin.nextslicecap need old ≤ 2 * need + 512 := by
  unfold Builtin.nextslicecap
  split
  · omega
  · split
    · omega
    · exact growBy_le need 4 old (by omega)
theorem cap_fits {need old bytes : Nat} (h : old ≤ need) (hn : need ≤ room) (hb : bytes ≤ 256) : ¬ Builtin.nextslicecap need old * bytes > 2 ^ 48 := by
  have h1 := nextslicecap_le need old h
  have h2 : Builtin.nextslicecap need old * bytes ≤ (2 * room + 512) * 256 := Nat.mul_le_mul (by omega) hb
  have h3 : (2 * room + 512) * 256 ≤ 2 ^ 48 := by decide
  omega

/-- the cells of a slice's elements, as append reads them -/
theorem elemsOf_ok (hS : HOk P M0 S) {sz : Nat} {y : AV} {v : Value} {ys : List AV} (hy : Rep M0 S v y) (h : aElemsOf S.h sz y = some ys) :
    ∃ D : Array Value, (Builtin.lenOf v).run P S.w = .ok ys.length S.w ∧ (∀ w : World, w.heap = S.w.heap → (Builtin.firstCells sz ys.length v).run P w = .ok D w) ∧ D.size = ys.length * sz ∧ ElemsOk M0 S sz D ys := by
  unfold aElemsOf at h
  split at h
  · cases h
    have h' : RepP (Avoid M0 S.m) S.w v .nilslice := hy
    cases h'
    exact ⟨#[], rfl, fun w _ => rfl, by simp, fun i x hx => by simp at hx⟩
  · rename_i sz' xs full
    split at h
    · rename_i hsz
      subst hsz
      cases h
      have h' : RepP (Avoid M0 S.m) S.w v (.slice sz' xs full) := hy
      cases h' with
      | slice f hlen hcap hfull hs hM hcell hr =>
        rename_i b off len cap
        subst hlen
        refine ⟨((List.range (xs.length * sz')).map f).toArray, by simp [Builtin.lenOf], fun w hw => ?_, by simp, fun i x hx => ?_⟩
        · have := run_loadCells (P := P) w ⟨b, off, none⟩ (xs.length * sz') f (fun j hj => by
            rw [add_none, ← hcell j hj]; simp only [World.cell?, hw])
          simpa [Builtin.firstCells] using this
        · simp only [List.getElem?_map, Option.map_eq_some_iff] at hx
          obtain ⟨q, hq, rfl⟩ := hx
          have hsq := hs q (List.mem_of_getElem? hq)
          refine ⟨_, pv_cells hsq, by simpa using hsq.1, fun j c hc => ?_⟩
          simp only [List.getElem?_map, Option.map_eq_some_iff] at hc
          obtain ⟨d, hd, rfl⟩ := hc
          have hjl := (List.getElem?_eq_some_iff.1 hd).1
          rw [range_map_getD _ _ _ (idx_lt (List.getElem?_eq_some_iff.1 hq).1 (by omega))]
          exact ⟨hsq.2 d (List.mem_of_getElem? hd), hr i j q d hq hd⟩
      | @empty a cap _ _ hf =>
        refine ⟨#[], rfl, fun w _ => ?_, by simp, fun i x hx => by simp at hx⟩
        simp only [List.map_nil, List.length_nil]
        cases a with
        | none => rfl
        | some a => simp [Builtin.firstCells, loadCells, loadCellsFrom]
    · cases h
  · rename_i s
    split at h
    · rename_i hsz
      subst hsz
      cases h
      have h' : RepP (Avoid M0 S.m) S.w v (.str s) := hy
      cases h'
      refine ⟨(Lib.strCells s).toArray, by simp [Builtin.lenOf], fun w _ => ?_, by simp [Lib.strCells_length], fun i x hx => ?_⟩
      · have := Lib.run_firstCells_string (P := P) (w := w) 1 s
        simpa using this
      · simp only [List.getElem?_map, Option.map_eq_some_iff] at hx
        obtain ⟨b, hb, rfl⟩ := hx
        refine ⟨[.p (.int .u8 b.toNat)], rfl, rfl, fun j c hj => ?_⟩
        cases j with
        | zero =>
          cases hj
          refine ⟨rfl, ?_⟩
          have : (Lib.strCells s).toArray.getD (i * 1 + 0) undef = .int .u8 b.toNat := by
            simp [Lib.strCells, Array.getD_eq_getD_getElem?, hb]
          rw [this]
          exact .int _ _
        | succ j => cases hj
    · cases h
  · rename_i id ver off len
    split at h
    · rename_i sz' xs hid
      split at h
      · rename_i hc
        obtain ⟨rfl, hv, hle⟩ := hc
        cases h
        have hsl := sub_length off len xs hle
        rcases live_row hy.2 hid hv with ⟨rfl, hv0, hoff, ad, cap, rfl⟩ | ⟨b, cap, T', n, hm, rfl, hcap, hsh, hroom, hreach⟩ | ⟨hmn, rfl, rfl⟩
        · refine ⟨#[], by rw [hsl]; rfl, fun w _ => ?_, by simp [hsl], fun i x hx => by simp [sub] at hx⟩
          rw [hsl]
          cases ad with
          | none => rfl
          | some a => simp [Builtin.firstCells, loadCells, loadCellsFrom]
        · obtain ⟨C, T, hb, hsize, hel⟩ := row_block hS hid hm
          have hmul : (off + len) * sz' ≤ C.size := Nat.le_trans (Nat.mul_le_mul_right sz' hle) hsize
          rw [Nat.add_mul] at hmul
          refine ⟨((List.range (len * sz')).map fun k => C.getD (off * sz' + k) undef).toArray, by rw [hsl]; rfl, fun w hw => ?_, by simp [hsl], fun i x hx => ?_⟩
          · have := run_loadCells (P := P) w ⟨b, off * sz', none⟩ (len * sz') (fun k => C.getD (off * sz' + k) undef) (fun j hj => by
              rw [add_none]
              exact cell_block (by rw [hw]; exact hb) _ (by omega))
            simpa [Builtin.firstCells, hsl] using this
          · have hil := (List.getElem?_eq_some_iff.1 hx).1
            rw [hsl] at hil
            have hx' : xs[off + i]? = some x := by
              unfold sub at hx
              rw [List.getElem?_take, if_pos hil, List.getElem?_drop] at hx
              exact hx
            obtain ⟨cs, h1, h2, h3⟩ := hel _ x hx'
            refine ⟨cs, h1, h2, fun j c hc => ?_⟩
            have hjl := (List.getElem?_eq_some_iff.1 hc).1
            rw [range_map_getD _ _ _ (idx_lt hil (by omega))]
            have := h3 j c hc
            rwa [Nat.add_mul, Nat.add_assoc] at this
        · have hsl0 : (sub off 0 xs).length = 0 := hsl
          exact ⟨#[], by rw [hsl0]; rfl, fun w _ => by rw [hsl0]; rfl, by simp [hsl0], fun i x hx => by simp [sub] at hx⟩
      · cases h
    · cases h
  · cases h

/-- the new row of an append that grows -/
theorem grown_row {sz n1 n2 : Nat} {O D R : Array Value} {xs ys : List AV} (hO : O.size = n1 * sz) (hD : D.size = n2 * sz) (h1 : xs.length = n1) (h2 : ys.length = n2)
    (hx : ElemsOk M0 S sz O xs) (hy : ElemsOk M0 S sz D ys) : ElemsOk M0 S sz (O ++ D ++ R) (xs ++ ys) := by
  intro i x hi
  have hget : ∀ k, k < O.size → (O ++ D ++ R).getD k undef = O.getD k undef := by
    intro k hk
    simp [Array.getD_eq_getD_getElem?, Array.getElem?_append, hk]
  have hget2 : ∀ k, k < D.size → (O ++ D ++ R).getD (O.size + k) undef = D.getD k undef := by
    intro k hk
    simp [Array.getD_eq_getD_getElem?, Array.getElem?_append, hk, show ¬ (O.size + k < O.size) by omega]
  rcases Nat.lt_or_ge i xs.length with h | h
  · rw [List.getElem?_append_left h] at hi
    obtain ⟨cs, a1, a2, a3⟩ := hx i x hi
    refine ⟨cs, a1, a2, fun j c hc => ?_⟩
    have hjl := (List.getElem?_eq_some_iff.1 hc).1
    rw [hget _ (by rw [hO]; exact idx_lt (by omega) (by omega))]
    exact a3 j c hc
  · rw [List.getElem?_append_right h] at hi
    obtain ⟨cs, a1, a2, a3⟩ := hy _ x hi
    refine ⟨cs, a1, a2, fun j c hc => ?_⟩
    have hjl := (List.getElem?_eq_some_iff.1 hc).1
    have hil := (List.getElem?_eq_some_iff.1 hi).1
    have e : i * sz + j = O.size + ((i - xs.length) * sz + j) := by
      rw [hO, ← h1, ← Nat.add_assoc, ← Nat.add_mul, show xs.length + (i - xs.length) = i by omega]
    rw [e, hget2 _ (by rw [hD]; exact idx_lt (by omega) (by omega))]
    exact a3 j c hc

/-- an append that grows, run -/
theorem run_append_grow {T U e : TypeId} {ty : TypeId} {sz bytes : Nat} {base : Option Addr} {len cap n : Nat} {y : Value} {O D : Array Value} (hT : P.underlying T = some (.slice e)) (hU : (∃ f, P.underlying U = some (.slice f)) ∨ P.underlying U = some .string)
    (hsz : sizeT P e = some sz) (hby : bytesT P e = some bytes) (hb : bytes ≤ 256) (hz : hasZero P e sz = true) (hn : len + n ≤ room) (hlt : cap < len + n) (w : World)
    (hlen : (Builtin.lenOf y).run P w = .ok n w) (hO : (Builtin.firstCells sz len (.slice base len cap)).run P w.drew = .ok O w.drew) (hD : (Builtin.firstCells sz n y).run P w.drew = .ok D w.drew) :
    ∃ (newCap : Nat) (R : Array Value), len + n ≤ newCap ∧ R.size = (newCap - (len + n)) * sz ∧
      (Builtin.append_ #[T, U] ty #[.slice base len cap, y]).run P w = .ok (.slice (some ⟨w.heap.size, 0, none⟩) (len + n) newCap) (w.drew.alloc (.cells (O ++ D ++ R) e)) := by
  obtain ⟨i, hi, hib⟩ := run_bytesT hby w
  obtain ⟨z, hzr, hzs⟩ := hasZero_some hz w.drew
  have hi2 : (typeInfo e).run P w.drew = .ok i w.drew := by
    obtain ⟨i', hi', _⟩ := run_bytesT hby w.drew
    have : ∃ j, P.info? e = some j := by
      unfold bytesT at hby
      cases hq : P.info? e with
      | none => simp [hq] at hby
      | some j => exact ⟨j, rfl⟩
    obtain ⟨j, hj⟩ := this
    simp [typeInfo, hj] at hi ⊢
    exact hi
  refine ⟨(Question.appendCap (len + n) cap e).cut (w.tape w.drawn (.appendCap (len + n) cap e)), Builtin.zeroCells z.cells ((Question.appendCap (len + n) cap e).cut (w.tape w.drawn (.appendCap (len + n) cap e)) - (len + n)), ?_, ?_, ?_⟩
  · simp [Question.cut]
  · simp [Builtin.zeroCells, hzs]
  · have hmax : ¬ (((len + n : Nat) : Int) > IntKind.i64.max) := by
      have : IntKind.i64.max = 9223372036854775807 := by decide
      rw [this]
      unfold room at hn
      omega
    have hfit := cap_fits (old := cap) (bytes := bytes) (Nat.le_of_lt hlt) hn hb
    rcases hU with ⟨_, hU⟩ | hU
    all_goals
      unfold Builtin.append_
      simp only [List.getElem?_toArray, List.getElem?_cons_zero, List.getElem?_cons_succ, Sem.run_bind, run_underlying hT, run_underlying hU, run_sizeT hsz, Result.andThen_ok, Sem.run_pure]
      simp only [Bool.false_eq_true, if_false, Sem.run_bind, hlen, Result.andThen_ok]
      rw [if_neg (by omega)]
      simp only [hi, Result.andThen_ok, Sem.run_bind]
      rw [if_neg (by intro h; exact hmax h.1)]
      simp only [Sem.run_bind, hi, Result.andThen_ok, hib]
      rw [if_neg hfit]
      simp only [Sem.run_bind, run_choose, Question.forced, Bool.false_eq_true, if_false, Result.andThen_ok, World.drew_eq, hi2, run_askRoom, hO]
      simp [newRow, hD, hzr]

/-- an append within the room, run -/
theorem run_append_room {T U e : TypeId} {ty : TypeId} {sz : Nat} {b len cap n : Nat} {y : Value} {C D : Array Value} {T' : TypeId} (hT : P.underlying T = some (.slice e)) (hU : (∃ f, P.underlying U = some (.slice f)) ∨ P.underlying U = some .string)
    (hsz : sizeT P e = some sz) (hle : len + n ≤ cap) (w : World) (hlen : (Builtin.lenOf y).run P w = .ok n w) (hD : (Builtin.firstCells sz n y).run P w = .ok D w)
    (hb : w.heap[b]? = some (.cells C T' (0, 0))) (hfit : len * sz + D.size ≤ C.size) (hone : ∀ v ∈ D.toList, v.oneCell' = true) :
    (Builtin.append_ #[T, U] ty #[.slice (some ⟨b, 0, none⟩) len cap, y]).run P w = .ok (.slice (some ⟨b, 0, none⟩) (len + n) cap) (w.setRow b (ovr C (len * sz) D.toList)) := by
  have hst := run_storeCellsT (P := P) b T' D.toList (len * sz) 0 C w hb (by simpa using hfit) hone
  rcases hU with ⟨_, hU⟩ | hU
  all_goals
    unfold Builtin.append_
    simp only [List.getElem?_toArray, List.getElem?_cons_zero, List.getElem?_cons_succ, Sem.run_bind, run_underlying hT, run_underlying hU, run_sizeT hsz, Result.andThen_ok, Sem.run_pure]
    simp only [Bool.false_eq_true, if_false, Sem.run_bind, hlen, Result.andThen_ok]
    rw [if_pos hle]
    simp only [Bool.not_false, if_true, Sem.run_bind, hD, Result.andThen_ok, add_none, Nat.zero_add, hst, Sem.run_pure, Nat.add_zero]
/-- nothing appended to nil -/
theorem run_append_nil {T U e : TypeId} {ty : TypeId} {sz : Nat} {y : Value} {D : Array Value} (hT : P.underlying T = some (.slice e)) (hU : (∃ f, P.underlying U = some (.slice f)) ∨ P.underlying U = some .string)
    (hsz : sizeT P e = some sz) (w : World) (hlen : (Builtin.lenOf y).run P w = .ok 0 w) (hD : (Builtin.firstCells sz 0 y).run P w = .ok D w) :
    (Builtin.append_ #[T, U] ty #[.slice none 0 0, y]).run P w = .ok (.slice none 0 0) w := by
  rcases hU with ⟨_, hU⟩ | hU
  all_goals
    unfold Builtin.append_
    simp only [List.getElem?_toArray, List.getElem?_cons_zero, List.getElem?_cons_succ, Sem.run_bind, run_underlying hT, run_underlying hU, run_sizeT hsz, Result.andThen_ok, Sem.run_pure]
    simp only [Bool.false_eq_true, if_false, Sem.run_bind, hlen, Result.andThen_ok]
    rw [if_pos (by omega)]
    simp only [Bool.not_false, if_true, Sem.run_bind, hD, Result.andThen_ok, Sem.run_pure, Nat.add_zero]

theorem elems_one {sz n : Nat} {D : Array Value} {ys : List AV} (hn : ys.length = n) (hD : D.size = n * sz) (h : ElemsOk M0 S sz D ys) : ∀ v ∈ D.toList, v.oneCell' = true := by
  intro v hv
  obtain ⟨k, hk⟩ := List.getElem?_of_mem hv
  have hkl : k < n * sz := by
    have := (List.getElem?_eq_some_iff.1 hk).1
    simp at this; omega
  have hsz : 0 < sz := by
    rcases Nat.eq_zero_or_pos sz with h0 | h0
    · subst h0; simp at hkl
    · exact h0
  have hi : k / sz < ys.length := by rw [hn]; exact (Nat.div_lt_iff_lt_mul hsz).2 hkl
  obtain ⟨cs, h1, h2, h3⟩ := h (k / sz) ys[k / sz] (by simp [hi])
  have hj : k % sz < cs.length := by rw [h2]; exact Nat.mod_lt _ hsz
  obtain ⟨h4, h5⟩ := h3 (k % sz) cs[k % sz] (by simp [hj])
  have e : k / sz * sz + k % sz = k := by rw [Nat.mul_comm]; exact Nat.div_add_mod k sz
  rw [e] at h5
  have : D.getD k undef = v := by rw [← toList_getD, List.getD_eq_getElem?_getD, hk]; rfl
  rw [this] at h5
  exact oneCell_of_repS h4 h5

theorem set_same {α : Type} {l : List α} {i : Nat} {x : α} (h : l[i]? = some x) : l.set i x = l := by
  apply List.ext_getElem?
  intro k
  rw [List.getElem?_set]
  split
  · rename_i hk
    subst hk
    split
    · exact h.symm
    · rename_i hn
      have := (List.getElem?_eq_some_iff.1 h).1
      omega
  · rfl

theorem drew_run {Q : Sem (Array Value)} {D : Array Value} (h : ∀ w : World, w.heap = S.w.heap → Q.run P w = .ok D w) : Q.run P S.w.drew = .ok D S.w.drew := h _ rfl

/-- elements laid over others -/
theorem elems_over {C D : Array Value} {xs ys : List AV} {p sz : Nat} (hel : ElemsOk M0 S sz C xs) (hC : xs.length * sz ≤ C.size) (hD : D.size = ys.length * sz) (hDel : ElemsOk M0 S sz D ys) (hp : p + ys.length ≤ xs.length) :
    ElemsOk M0 S sz (ovr C (p * sz) D.toList) (xs.take p ++ ys ++ xs.drop (p + ys.length)) := by
  have hdl : D.toList.length = ys.length * sz := by simpa using hD
  have hfit : p * sz + D.toList.length ≤ C.size := by
    rw [hdl, ← Nat.add_mul]
    exact Nat.le_trans (Nat.mul_le_mul_right sz hp) hC
  have htl : (xs.take p).length = p := by simp; omega
  intro i z hi
  rw [List.append_assoc] at hi
  rcases Nat.lt_or_ge i p with h | h
  · rw [List.getElem?_append_left (by omega), List.getElem?_take, if_pos h] at hi
    obtain ⟨cs, a1, a2, a3⟩ := hel i z hi
    refine ⟨cs, a1, a2, fun j c hc => ?_⟩
    have hjl := (List.getElem?_eq_some_iff.1 hc).1
    have := idx_lt (i := i) (n := p) (sz := sz) (j := j) h (by omega)
    rw [getD_ovr _ _ _ _ hfit, if_neg (by omega)]
    exact a3 j c hc
  · rw [List.getElem?_append_right (by omega), htl] at hi
    rcases Nat.lt_or_ge (i - p) ys.length with h2 | h2
    · rw [List.getElem?_append_left h2] at hi
      obtain ⟨cs, a1, a2, a3⟩ := hDel _ z hi
      refine ⟨cs, a1, a2, fun j c hc => ?_⟩
      have hjl := (List.getElem?_eq_some_iff.1 hc).1
      have e1 : i * sz = p * sz + (i - p) * sz := by rw [← Nat.add_mul]; congr 1; omega
      have := idx_lt (i := i - p) (n := ys.length) (sz := sz) (j := j) h2 (by omega)
      rw [getD_ovr _ _ _ _ hfit, if_pos (by omega), toList_getD, show i * sz + j - p * sz = (i - p) * sz + j by omega]
      exact a3 j c hc
    · rw [List.getElem?_append_right h2, List.getElem?_drop, show p + ys.length + (i - p - ys.length) = i by omega] at hi
      obtain ⟨cs, a1, a2, a3⟩ := hel i z hi
      refine ⟨cs, a1, a2, fun j c hc => ?_⟩
      have hjl := (List.getElem?_eq_some_iff.1 hc).1
      have e1 : (p + ys.length) * sz ≤ i * sz := Nat.mul_le_mul_right sz (by omega)
      rw [Nat.add_mul] at e1
      rw [getD_ovr _ _ _ _ hfit, if_neg (by omega)]
      exact a3 j c hc
theorem append_ok (hS : HOk P M0 S) {T U : TypeId} {ty : TypeId} {x y : AV} {v u : Value} (hx : Rep M0 S v x) (hy : Rep M0 S u y) : ValOk P M0 S (Builtin.append_ #[T, U] ty #[v, u]) (aAppend P T U x y S.h) := by
  unfold aAppend
  split
  · rename_i e he
    split
    · exact trivial
    · rename_i hU
      have hTu := sliceT_some he
      have hUu : (∃ f, P.underlying U = some (.slice f)) ∨ P.underlying U = some .string := by
        cases hq : sliceT P U with
        | some f => exact .inl ⟨f, sliceT_some hq⟩
        | none =>
          refine .inr (isStringT_some ?_)
          simpa [hq] using hU
      split
      · rename_i sz bytes hsz hby
        split
        · rename_i ys hys
          obtain ⟨D, hlen, hD, hDs, hDel⟩ := elemsOf_ok (P := P) hS hy hys
          split
          · rename_i hc
            obtain ⟨hsz0, hb, hz⟩ := hc
            split
            · -- nil
              split
              · rename_i hroom
                have h' : RepP (Avoid M0 S.m) S.w v .nilslice := hx
                cases h'
                split
                · rename_i h0
                  subst h0
                  exact ValOk.pure hS (run_append_nil hTu hUu hsz S.w hlen (hD _ rfl)) (rep0_of_pv .nilslice)
                · rename_i h0
                  have hpos : 0 < ys.length := List.length_pos_iff.2 h0
                  obtain ⟨nc, R, hnc, hR, hrun⟩ := run_append_grow (ty := ty) (base := none) (len := 0) (cap := 0) (O := #[]) hTu hUu hsz hby hb hz (by omega) (by omega) S.w hlen rfl (drew_run hD)
                  have hSd := HOk.drew hS
                  have ed := Ev.drew S.h.length S
                  have hel : ElemsOk M0 S.drew sz (#[] ++ D ++ R) ys := by
                    have := grown_row (M0 := M0) (S := S.drew) (R := R) (n1 := 0) (O := #[]) (xs := []) (by simp) hDs rfl rfl (fun i x hx => by simp at hx) (hDel.keep ed)
                    simpa using this
                  have hsize : (#[] ++ D ++ R).size = nc * sz := by
                    simp [hDs, hR]
                    rw [← Nat.add_mul]
                    congr 1
                    omega
                  have en := Ev.new S.drew.h.length M0 hSd (Nat.le_refl _) (.row sz ys) (.cells (#[] ++ D ++ R) e)
                  refine ⟨S.drew.new (.row sz ys) (.cells (#[] ++ D ++ R) e), _, rfl, by simpa [Mem.new, Mem.drew] using hrun, ed.trans en, HOk.new hSd (.inr ⟨_, e, _, rfl, heap_alloc_eq _ _, ?_, hel.keep en⟩), ⟨_, _, _, rfl⟩, .inr ⟨sz, ys, by simp [Mem.new, Mem.drew], by omega, fun _ => .inr (.inl ⟨S.w.heap.size, nc, e, nc * sz, ?_, by simp, ⟨by omega, by omega⟩, ?_, by simp, by omega⟩)⟩⟩
                  · rw [hsize]; exact Nat.mul_le_mul_right sz (by omega)
                  · have := hS.len
                    show (S.m ++ [some S.w.heap.size]).getD S.h.length none = _
                    rw [← this]; simp
                  · show (S.w.drew.alloc _).shape? S.w.drew.heap.size = _
                    unfold World.shape?
                    rw [heap_alloc_eq]
                    simp only [hsize]
              · exact trivial
            · -- a full immutable slice
              rename_i sz' xs
              split
              · rename_i hc2
                obtain ⟨rfl, hroom⟩ := hc2
                obtain ⟨O, hlo, hO, hOs, hOel⟩ := elemsOf_ok (P := P) (ys := xs.map .p) (sz := sz') hS hx (by simp [aElemsOf])
                have h' : RepP (Avoid M0 S.m) S.w v (.slice sz' xs true) := hx
                have hv : ∃ base, v = .slice base xs.length xs.length := by
                  cases h' with
                  | slice f hl hcap hfull => have := hfull rfl; subst hl; subst this; exact ⟨_, rfl⟩
                  | empty hfull => have := hfull rfl; subst this; exact ⟨_, rfl⟩
                obtain ⟨base, rfl⟩ := hv
                split
                · rename_i h0
                  subst h0
                  refine ValOk.pure hS (v' := .slice base xs.length xs.length) ?_ hx
                  rcases hUu with ⟨_, hUu⟩ | hUu
                  all_goals
                    unfold Builtin.append_
                    simp only [List.getElem?_toArray, List.getElem?_cons_zero, List.getElem?_cons_succ, Sem.run_bind, run_underlying hTu, run_underlying hUu, run_sizeT hsz, Result.andThen_ok, Sem.run_pure]
                    simp only [Bool.false_eq_true, if_false, Sem.run_bind, hlen, Result.andThen_ok, List.length_nil, Nat.add_zero]
                    rw [if_pos (Nat.le_refl _)]
                    have hD0 : D = #[] := Array.size_eq_zero_iff.1 (by simpa using hDs)
                    subst hD0
                    have := hD S.w rfl
                    simp only [List.length_nil] at this
                    simp only [Bool.not_false, if_true, Sem.run_bind, this, Result.andThen_ok]
                    cases base with
                    | none => rfl
                    | some a => rfl
                · rename_i h0
                  have hpos : 0 < ys.length := List.length_pos_iff.2 h0
                  have hO2 := hO S.w.drew rfl
                  simp only [List.length_map] at hO2 hOs
                  obtain ⟨nc, R, hnc, hR, hrun⟩ := run_append_grow (ty := ty) (base := base) (len := xs.length) (cap := xs.length) hTu hUu hsz hby hb hz (by omega) (by omega) S.w hlen hO2 (drew_run hD)
                  have hSd := HOk.drew hS
                  have ed := Ev.drew S.h.length S
                  have hel : ElemsOk M0 S.drew sz' (O ++ D ++ R) (xs.map .p ++ ys) := grown_row (R := R) hOs hDs (by simp) rfl (hOel.keep ed) (hDel.keep ed)
                  have hsize : (O ++ D ++ R).size = nc * sz' := by
                    simp [hDs, hR, hOs]
                    rw [← Nat.add_mul, ← Nat.add_mul]
                    congr 1
                    omega
                  have hxl : (xs.map AV.p ++ ys).length = xs.length + ys.length := by simp
                  have en := Ev.new S.drew.h.length M0 hSd (Nat.le_refl _) (.row sz' (xs.map AV.p ++ ys)) (.cells (O ++ D ++ R) e)
                  refine ⟨S.drew.new (.row sz' (xs.map AV.p ++ ys)) (.cells (O ++ D ++ R) e), _, rfl, hrun, ed.trans en, HOk.new hSd (.inr ⟨_, e, _, rfl, heap_alloc_eq _ _, ?_, hel.keep en⟩), ⟨_, _, _, rfl⟩, .inr ⟨sz', _, by simp [Mem.new, Mem.drew]; rfl, by omega, fun _ => .inr (.inl ⟨S.w.heap.size, nc, e, nc * sz', ?_, by simp, ⟨by omega, by omega⟩, ?_, by simp, by omega⟩)⟩⟩
                  · rw [hsize, hxl]; exact Nat.mul_le_mul_right sz' (by omega)
                  · have := hS.len
                    show (S.m ++ [some S.w.heap.size]).getD S.h.length none = _
                    rw [← this]; simp
                  · show (S.w.drew.alloc _).shape? S.w.drew.heap.size = _
                    unfold World.shape?
                    rw [heap_alloc_eq]
                    simp only [hsize]
              · exact trivial
            · -- a row of the call's own
              rename_i id ver off len
              split
              · rename_i sz' xs hid
                split
                · rename_i hc2
                  obtain ⟨rfl, hv, rfl, rfl, hroom⟩ := hc2
                  obtain ⟨O, hlo, hO, hOs, hOel⟩ := elemsOf_ok (P := P) (ys := xs) (sz := sz') hS hx (by simp [aElemsOf, hid, hv, sub, List.take_of_length_le (Nat.le_of_eq hv)])
                  have hxl : (xs ++ ys).length = xs.length + ys.length := by simp
                  have grow : ∀ (base : Option Addr) (cap : Nat), v = .slice base len cap → cap < len + ys.length →
                      ValOk P M0 S (Builtin.append_ #[T, U] ty #[v, u]) (.val (.slice id (xs.length + ys.length) 0 (xs.length + ys.length)) (S.h.set id (.row sz' (xs ++ ys)))) := by
                    intro base cap hvv hlt
                    subst hvv
                    have hcap : len ≤ cap := by
                      rcases live_row hx.2 hid hv with ⟨h1, _⟩ | ⟨b, cap', T', n, hm, h2, hcap, _⟩ | ⟨_, h2, _⟩
                      · omega
                      · cases h2; exact hcap.1
                      · cases h2; omega
                    have hO2 := hO S.w.drew rfl
                    rw [hv] at hO2
                    obtain ⟨nc, R, hnc, hR, hrun⟩ := run_append_grow (ty := ty) (base := base) (len := len) (cap := cap) hTu hUu hsz hby hb hz (by omega) hlt S.w hlen hO2 (drew_run hD)
                    have hSd := HOk.drew hS
                    have ed := Ev.drew S.h.length S
                    have hel : ElemsOk M0 S.drew sz' (O ++ D ++ R) (xs ++ ys) := grown_row (R := R) hOs hDs rfl rfl (hOel.keep ed) (hDel.keep ed)
                    have hsize : (O ++ D ++ R).size = nc * sz' := by
                      simp [hDs, hR, hOs]
                      rw [← Nat.add_mul, ← Nat.add_mul]
                      congr 1
                      omega
                    have hlonger : xs.length < (xs ++ ys).length := by omega
                    have en := Ev.regrow S.drew.h.length (S := S.drew) (ob := .cells (O ++ D ++ R) e) hid hlonger
                    refine ⟨S.drew.regrow id (.row sz' (xs ++ ys)) (.cells (O ++ D ++ R) e), _, rfl, hrun, ed.trans en, HOk.regrow hSd hid hlonger (by rw [hsize, hxl]; exact Nat.mul_le_mul_right sz' (by omega)) hel, ⟨_, _, _, rfl⟩,
                      .inr ⟨sz', _, by simp [Mem.regrow, Mem.drew, (List.getElem?_eq_some_iff.1 hid).1]; rfl, by omega, fun _ => .inr (.inl ⟨S.w.heap.size, nc, e, nc * sz', ?_, by simp [hv, Mem.drew], ⟨by omega, by omega⟩, ?_, by simp, by omega⟩)⟩⟩
                    · have := hS.len
                      have hidl := (List.getElem?_eq_some_iff.1 hid).1
                      show (S.m.set id (some S.w.heap.size)).getD id none = _
                      rw [List.getD_eq_getElem?_getD, List.getElem?_set_self (by omega)]
                      rfl
                    · show (S.w.drew.alloc _).shape? S.w.drew.heap.size = _
                      unfold World.shape?
                      rw [heap_alloc_eq]
                      simp only [hsize]
                  rcases live_row hx.2 hid hv with ⟨h1, h2, _⟩ | ⟨b, cap, T', n, hm, rfl, hcap, hsh, hfit, hreach⟩ | ⟨hmn, rfl, h0⟩
                  · omega
                  · rcases Nat.lt_or_ge cap (len + ys.length) with hlt | hge
                    · exact grow _ cap rfl hlt
                    · obtain ⟨C, T2, hb2, hsize2, hel2⟩ := row_block hS hid hm
                      have hsh2 : n = C.size := by
                        unfold World.shape? at hsh
                        rw [hb2] at hsh
                        simp at hsh
                        exact hsh.2.symm
                      have hfit2 : len * sz' + D.size ≤ C.size := by
                        rw [hDs, ← Nat.add_mul]
                        refine Nat.le_trans (Nat.mul_le_mul_right sz' ?_) (hsh2 ▸ hfit)
                        omega
                      have hone := elems_one rfl hDs hDel
                      have hrun := run_append_room (ty := ty) (cap := cap) hTu hUu hsz hge S.w hlen (hD _ rfl) hb2 hfit2 hone
                      have hov : (ovr C (len * sz') D.toList).size = C.size := size_ovr _ _ _
                      have en := Ev.set S.h.length hid hm hb2 hov (xs' := xs ++ ys) (by omega)
                      have hdl : D.toList.length = ys.length * sz' := by simpa using hDs
                      refine ⟨S.set id (.row sz' (xs ++ ys)) b (ovr C (len * sz') D.toList), .slice (some ⟨b, 0, none⟩) (len + ys.length) cap, rfl, ?_, en, HOk.set hS hid hm hb2 hov (by omega) ?_ ?_, ⟨_, _, _, rfl⟩,
                        .inr ⟨sz', _, by simp [Mem.set, (List.getElem?_eq_some_iff.1 hid).1]; rfl, by omega, fun _ => .inr (.inl ⟨b, cap, T', n, hm, by simp [hv], ⟨by omega, by omega⟩, ?_, by simpa using hfit, by omega⟩)⟩⟩
                      · simpa [Mem.set] using hrun
                      · rw [hov, hxl, ← hsh2]
                        refine Nat.le_trans (Nat.mul_le_mul_right sz' ?_) hfit
                        omega
                      · intro i z hi
                        rcases Nat.lt_or_ge i xs.length with h | h
                        · rw [List.getElem?_append_left h] at hi
                          obtain ⟨cs, a1, a2, a3⟩ := hel2 i z hi
                          refine ⟨cs, a1, a2, fun j c hc => ?_⟩
                          have hjl := (List.getElem?_eq_some_iff.1 hc).1
                          have := idx_lt (i := i) (n := len) (sz := sz') (j := j) (by omega) (by omega)
                          rw [getD_ovr _ _ _ _ (by simpa using hfit2), if_neg (by omega)]
                          exact a3 j c hc
                        · rw [List.getElem?_append_right h] at hi
                          obtain ⟨cs, a1, a2, a3⟩ := hDel _ z hi
                          refine ⟨cs, a1, a2, fun j c hc => ?_⟩
                          have hjl := (List.getElem?_eq_some_iff.1 hc).1
                          have hil := (List.getElem?_eq_some_iff.1 hi).1
                          have e1 : i * sz' = len * sz' + (i - xs.length) * sz' := by rw [← Nat.add_mul]; congr 1; omega
                          have := idx_lt (i := i - xs.length) (n := ys.length) (sz := sz') (j := j) hil (by omega)
                          rw [getD_ovr _ _ _ _ (by simpa using hfit2), if_pos (by omega), toList_getD, show i * sz' + j - len * sz' = (i - xs.length) * sz' + j by omega]
                          exact a3 j c hc
                      · exact (shape_setRow _ _ _ _ _ _ hb2 hov b).trans hsh
                  · rcases Nat.eq_zero_or_pos ys.length with hy0 | hy0
                    · have hys0 : ys = [] := List.length_eq_zero_iff.1 hy0
                      subst hys0
                      refine ⟨S, .slice none 0 0, ?_, run_append_nil hTu hUu hsz S.w hlen (hD _ rfl), Ev.refl _ _, hS, ⟨_, _, _, rfl⟩, .inr ⟨sz', xs, hid, by simp, fun _ => .inr (.inr ⟨hmn, rfl, by rw [List.length_nil]; omega⟩)⟩⟩
                      simp only [List.append_nil]
                      exact (set_same hid).symm
                    · exact grow none 0 (by rw [h0]) (by omega)
                · split
                  · rename_i hc3
                    obtain ⟨rfl, hv, rfl, hle⟩ := hc3
                    have hnew : (xs.take len ++ ys ++ xs.drop (len + ys.length)).length = xs.length := by simp; omega
                    rcases live_row hx.2 hid hv with ⟨h1, h2, h3, _⟩ | ⟨b, cap, T', n, hm, rfl, hcap, hsh, hfit, hreach⟩ | ⟨hmn, rfl, h0⟩
                    · omega
                    · obtain ⟨C, T2, hb2, hsize2, hel2⟩ := row_block hS hid hm
                      have hfit2 : len * sz' + D.size ≤ C.size := by
                        rw [hDs, ← Nat.add_mul]
                        exact Nat.le_trans (Nat.mul_le_mul_right sz' (by omega)) hsize2
                      have hone := elems_one rfl hDs hDel
                      have hrun := run_append_room (ty := ty) (cap := cap) hTu hUu hsz (by omega) S.w hlen (hD _ rfl) (by simpa using hb2) hfit2 hone
                      have hov : (ovr C (len * sz') D.toList).size = C.size := size_ovr _ _ _
                      have en := Ev.set S.h.length hid hm hb2 hov (xs' := xs.take len ++ ys ++ xs.drop (len + ys.length)) (by omega)
                      refine ⟨S.set id (.row sz' (xs.take len ++ ys ++ xs.drop (len + ys.length))) b (ovr C (len * sz') D.toList), .slice (some ⟨b, 0, none⟩) (len + ys.length) cap, rfl, ?_, en, HOk.set hS hid hm hb2 hov (by omega) (by rw [hov, hnew]; exact hsize2) (elems_over hel2 hsize2 hDs hDel (by omega)), ⟨_, _, _, rfl⟩,
                        .inr ⟨sz', xs.take len ++ ys ++ xs.drop (len + ys.length), by show (S.h.set id _)[id]? = _; rw [List.getElem?_set_self (List.getElem?_eq_some_iff.1 hid).1], by omega, fun _ => .inr (.inl ⟨b, cap, T', n, hm, by simp, ⟨by omega, by omega⟩, ?_, by simpa using hfit, by omega⟩)⟩⟩
                      · simpa [Mem.set] using hrun
                      · exact (shape_setRow _ _ _ _ _ _ hb2 hov b).trans hsh
                    · have h0' := hS.obj id _ hid
                      rw [hmn] at h0'
                      rcases h0' with ⟨_, rfl⟩ | ⟨b, _, _, h, _⟩
                      · have hys0 : ys = [] := List.length_eq_zero_iff.1 (by simp at hv; omega)
                        subst hys0
                        refine ⟨S, .slice none 0 0, ?_, run_append_nil hTu hUu hsz S.w hlen (hD _ rfl), Ev.refl _ _, hS, ⟨_, _, _, rfl⟩, .inr ⟨sz', [], hid, by simp at hv ⊢; omega, fun _ => .inr (.inr ⟨hmn, rfl, by simp at hv ⊢; omega⟩)⟩⟩
                        simp only [List.append_nil, List.take_nil, List.drop_nil]
                        exact (set_same hid).symm
                      · cases h
                  · exact trivial
              · exact trivial
            · exact trivial
          · exact trivial
        · exact trivial
      · exact trivial
  · exact trivial

/-! ### make -/
theorem wrap_small {i : Int} (h0 : 0 ≤ i) (h : i ≤ room) : IntKind.i64.wrap i = i := by
  unfold room at h
  exact IntWalk.i64_in _ ⟨by omega, by omega⟩

theorem makeSlice_ok (hS : HOk P M0 S) {T : TypeId} {l c : AV} {vl vc : Value} (hl : Rep M0 S vl l) (hc : Rep M0 S vc c) : ValOk P M0 S (Instr.makeSlice T vl vc) (aMakeSlice P T l c S.h) := by
  unfold aMakeSlice
  split
  · rename_i e l c he
    have := int_rep hl
    subst this
    have := int_rep hc
    subst this
    split
    · rename_i sz bytes z hsz hby hz
      split
      · rename_i hcond
        obtain ⟨hsz0, hb, hzl, hzc, h0, hlc, hroom⟩ := hcond
        obtain ⟨i, hi, hib⟩ := run_bytesT hby S.w
        obtain ⟨zv, hzr, hzp⟩ := zeroT_some hz S.w
        have hu := sliceT_some he
        obtain ⟨zs, hzs⟩ := Option.isSome_iff_exists.1 hzc
        have hrep : Rep M0 S zv (.p z) := constPV_rep hzp
        obtain ⟨hzn, hzcr⟩ := rep_cells hrep hzs
        have hzsl : zs.length = sz := by
          cases z with
          | tuple l => simp [AV.cells] at hzs
          | _ => (simp [AV.cells] at hzs; subst hzs; simpa using hzl)
        have hwl := wrap_small h0 (Int.le_trans hlc hroom)
        have hwc := wrap_small (Int.le_trans h0 hlc) hroom
        have hbig : (bytes : Int) * c ≤ 2 ^ 48 := by
          have h1 : (bytes : Int) * c ≤ 256 * room := Int.mul_le_mul (by omega) hroom (by omega) (by omega)
          have h2 : (256 : Int) * (room : Nat) ≤ 2 ^ 48 := by decide
          omega
        generalize hC : ((Array.range (c.toNat * sz)).map (zv.cells[· % zv.cells.size]!) : Array Value) = C
        have hCs : C.size = c.toNat * sz := by rw [← hC]; simp
        have hrun : (Instr.makeSlice T (.int .i64 l) (.int .i64 c)).run P S.w = .ok (.slice (some ⟨S.w.heap.size, 0, none⟩) l.toNat c.toNat) (S.w.alloc (.cells C e)) := by
          unfold Instr.makeSlice
          simp only [Sem.run_bind, run_underlying hu, Result.andThen_ok, asInt, asIntOf, Sem.run_pure, hi, hib, hwl, hwc]
          rw [if_neg (by simp; omega)]
          simp only [Sem.run_bind, run_askRoom, Result.andThen_ok, run_sizeT hsz]
          by_cases hn : c.toNat * sz = 0
          · rw [if_pos hn]
            have : C = #[] := Array.size_eq_zero_iff.1 (by omega)
            subst this
            have hr : ∀ f : Nat → Value, (Array.range 0).map f = #[] := fun f => Array.size_eq_zero_iff.1 (by simp)
            simp only [Sem.run_bind, Sem.run_pure, Result.andThen_ok, newRow, run_newObj, hn, hr, World.alloc_eq]
          · rw [if_neg hn]
            simp only [Sem.run_bind, hzr, Result.andThen_ok, Sem.run_pure, newRow, run_newObj, hC, World.alloc_eq]
        have hget : ∀ k, k < c.toNat * sz → C.getD k undef = zv.cells.getD (k % sz) undef := by
          intro k hk
          rw [← hC]
          have hm : k % sz < zv.cells.size := by rw [hzn, hzsl]; exact Nat.mod_lt _ (by omega)
          simp [hk, hzn, hzsl]
          rw [getElem!_pos _ _ (by simpa [hzn, hzsl] using Nat.mod_lt k (by omega : 0 < sz))]
          simp [show k % sz < zv.cells.size from hm]
        have hll : l.toNat ≤ c.toNat := by omega
        have hel : ElemsOk M0 S sz C (List.replicate l.toNat (.p z)) := by
          intro i x hx
          have hil := (List.getElem?_eq_some_iff.1 hx).1
          rw [List.length_replicate] at hil
          rw [List.getElem?_replicate, if_pos hil] at hx
          cases hx
          refine ⟨zs, hzs, hzsl, fun j c' hj => ?_⟩
          have hjl := (List.getElem?_eq_some_iff.1 hj).1
          rw [hget _ (Nat.lt_of_lt_of_le (idx_lt hil (by omega)) (Nat.mul_le_mul_right sz hll)), show (i * sz + j) % sz = j by rw [Nat.add_comm, Nat.add_mul_mod_self_right]; exact Nat.mod_eq_of_lt (by omega)]
          exact hzcr j c' hj
        have en := Ev.new S.h.length M0 hS (Nat.le_refl _) (.row sz (List.replicate l.toNat (.p z))) (.cells C e)
        refine ⟨S.new (.row sz (List.replicate l.toNat (.p z))) (.cells C e), _, rfl, hrun, en, HOk.new hS (.inr ⟨_, e, C, rfl, heap_alloc_eq _ _, ?_, hel.keep en⟩), ⟨_, _, _, rfl⟩, .inr ⟨sz, _, by simp [Mem.new]; rfl, by simp, fun _ => .inr (.inl ⟨S.w.heap.size, c.toNat, e, C.size, ?_, by simp, ⟨hll, by omega⟩, ?_, by simp; omega, by simp; omega⟩)⟩⟩
        · simp; rw [hCs]; exact Nat.mul_le_mul_right sz hll
        · have := hS.len
          show (S.m ++ [some S.w.heap.size]).getD S.h.length none = _
          rw [← this]; simp
        · show (S.w.alloc (.cells C e)).shape? S.w.heap.size = _
          unfold World.shape?
          rw [heap_alloc_eq]
      · exact trivial
    · exact trivial
  · exact trivial

end Abs
end Go.Proofs.YtdellinghbppgaaGreatDoor

namespace Go.Proofs.YtdellinghbppgaaGreatDoor
namespace Abs
variable {P : Program} {M0 : Nat → Prop} {S : Mem}

theorem optP_ok (hS : HOk P M0 S) {s : Sem Value} {r : Option PV} (h : ∀ q, r = some q → ∃ v', s.run P S.w = .ok v' S.w ∧ RepP (Avoid M0 S.m) S.w v' q) : ValOk P M0 S s (optP S.h r) := by
  cases r with
  | none => exact trivial
  | some q => obtain ⟨v', h1, h2⟩ := h q rfl; exact ValOk.pure hS h1 (rep0_of_pv h2)

theorem run_eqGuard_other {op : BinOp} {T : TypeId} {x y : Operand} {a b : Value} (w : World) (h1 : ∀ C D, ¬ (a = .agg C ∧ b = .agg D)) (h2 : ¬ (a = .nilIface ∧ b = .nilIface)) : (eqGuard op T x y a b).run P w = .ok () w := by
  cases op <;> first
    | rfl
    | (unfold eqGuard
       cases a <;> first
         | rfl
         | (cases b <;> first
             | rfl
             | exact absurd ⟨rfl, rfl⟩ (h1 _ _)
             | exact absurd ⟨rfl, rfl⟩ h2))

theorem intBin_ok {op : BinOp} {T : TypeId} {k : IntKind} {a b : Int} {q : PV} (hs : isShift op = false) (h : intBin op k a b = some q) (w : World) (M : Nat → Prop) :
    ∃ v', (binOp op T (.int k a) (.int k b)).run P w = .ok v' w ∧ RepP M w v' q := by
  cases op <;> simp only [intBin, isShift, reduceCtorEq, Option.some.injEq] at h hs
  case add => subst h; exact ⟨_, by simp [binOp, Op.intArith], .int _ _⟩
  case sub => subst h; exact ⟨_, by simp [binOp, Op.intArith], .int _ _⟩
  case mul => subst h; exact ⟨_, by simp [binOp, Op.intArith], .int _ _⟩
  case quo =>
    split at h
    · cases h
    · rename_i hb; cases h; exact ⟨_, by simp [binOp, Op.intDiv, hb], .int _ _⟩
  case rem =>
    split at h
    · cases h
    · rename_i hb; cases h; exact ⟨_, by simp [binOp, Op.intDiv, hb], .int _ _⟩
  case and =>
    subst h
    refine ⟨_, ?_, .int _ _⟩
    show (if k ≠ k then stuck "BinOp: operands of different kinds" else Op.intBits .and k a b : Sem Value).run P w = _
    rw [if_neg (by simp)]
    rfl
  case or =>
    subst h
    refine ⟨_, ?_, .int _ _⟩
    show (if k ≠ k then stuck "BinOp: operands of different kinds" else Op.intBits .or k a b : Sem Value).run P w = _
    rw [if_neg (by simp)]
    rfl
  case eql => subst h; exact ⟨_, by simp [binOp, Op.intCmp], .bool _⟩
  case neq => subst h; exact ⟨_, by simp [binOp, Op.intCmp], .bool _⟩
  case lss => subst h; exact ⟨_, by simp [binOp, Op.intCmp], .bool _⟩
  case leq => subst h; exact ⟨_, by simp [binOp, Op.intCmp], .bool _⟩
  case gtr => subst h; exact ⟨_, by simp [binOp, Op.intCmp], .bool _⟩
  case geq => subst h; exact ⟨_, by simp [binOp, Op.intCmp], .bool _⟩

theorem intShift_ok {op : BinOp} {T : TypeId} {k k' : IntKind} {a b : Int} {q : PV} (h : intShift op k a b = some q) (w : World) (M : Nat → Prop) :
    ∃ v', (binOp op T (.int k a) (.int k' b)).run P w = .ok v' w ∧ RepP M w v' q := by
  unfold intShift at h
  split at h
  · cases h
  · rename_i hb
    cases op <;> simp only [reduceCtorEq, Option.some.injEq] at h
    · subst h; exact ⟨_, by simp [binOp, Op.shift, hb], .int _ _⟩
    · subst h; exact ⟨_, by simp [binOp, Op.shift, hb], .int _ _⟩

theorem strBin_ok {op : BinOp} {T : TypeId} {a b : ByteArray} {q : PV} (h : strBin op a b = some q) (w : World) (M : Nat → Prop) :
    ∃ v', (binOp op T (.string a) (.string b)).run P w = .ok v' w ∧ RepP M w v' q := by
  cases op <;> simp only [strBin, reduceCtorEq, Option.some.injEq] at h
  · split at h
    · rename_i hsz
      cases h
      refine ⟨.string (a ++ b), ?_, .str _⟩
      have hm : IntKind.i64.max = 9223372036854775807 := by decide
      have : ¬ (((a.size + b.size : Nat) : Int) > IntKind.i64.max) := by rw [hm]; unfold strRoom at hsz; omega
      simp only [binOp, Op.stringOp]
      rw [if_neg this]
      rfl
    · cases h
  · subst h; exact ⟨.bool (a == b), by simp [binOp, Op.stringOp, beq_toListBytes], .bool _⟩
  · subst h; exact ⟨.bool !(a == b), by simp [binOp, Op.stringOp, beq_toListBytes], .bool _⟩
  · subst h; exact ⟨_, by simp [binOp, Op.stringOp], .bool _⟩

/-! ### equality of aggregates -/
def AggRep (M : Nat → Prop) (w : World) (X : Array Value) (a : List PV) : Prop := X.size = a.length ∧ ∀ (i : Nat) (c : PV), a[i]? = some c → RepP M w (X.getD i undef) c
/-- a value of a type, out of its cells -/
def valT (P : Program) (T : TypeId) (X : Array Value) : Value := if isAggT P T = some true then .agg X else X.getD 0 undef

theorem eqKs_append : ∀ {k1 k2 : List CK} {a b : List PV} {t : Bool}, eqKs (k1 ++ k2) a b = some t →
    ∃ s u, eqKs k1 (a.take k1.length) (b.take k1.length) = some s ∧ eqKs k2 (a.drop k1.length) (b.drop k1.length) = some u ∧ t = (s && u)
  | [], k2, a, b, t, h => ⟨true, t, rfl, by simpa using h, by simp⟩
  | k :: k1, k2, a, b, t, h => by
    cases a with
    | nil => simp [eqKs] at h
    | cons x a =>
      cases b with
      | nil => simp [eqKs] at h
      | cons y b =>
        simp only [List.cons_append, eqKs] at h
        split at h
        · rename_i s1 t1 h1 h2
          cases h
          obtain ⟨s, u, g1, g2, rfl⟩ := eqKs_append h2
          refine ⟨s1 && s, u, ?_, g2, by rw [Bool.and_assoc]⟩
          simp [eqKs, h1, g1]
        · cases h
theorem eqKs_length : ∀ {ks : List CK} {a b : List PV} {t : Bool}, eqKs ks a b = some t → a.length = ks.length ∧ b.length = ks.length
  | [], [], [], _, _ => ⟨rfl, rfl⟩
  | [], _ :: _, _, _, h => by simp [eqKs] at h
  | [], [], _ :: _, _, h => by simp [eqKs] at h
  | k :: ks, [], _, _, h => by simp [eqKs] at h
  | k :: ks, _ :: _, [], _, h => by simp [eqKs] at h
  | k :: ks, x :: a, y :: b, t, h => by
    simp only [eqKs] at h
    split at h
    · rename_i s u h1 h2
      obtain ⟨g1, g2⟩ := eqKs_length h2
      exact ⟨by simp [g1], by simp [g2]⟩
    · cases h

theorem run_part_val {T : TypeId} {ks n : Nat} {X : Array Value} (hsz : sizeT P T = some ks) (hag : (isAggT P T).isSome = true) (hle : n + ks ≤ X.size) (hpos : isAggT P T = some false → ks ≠ 0) (w : World) :
    (part T X n).run P w = .ok (valT P T (X.extract n (n + ks))) w := by
  obtain ⟨g, hg⟩ := Option.isSome_iff_exists.1 hag
  cases g with
  | true => simp [part, run_isAggT hg, run_sizeT hsz, valT, hg]
  | false =>
    have hk := hpos hg
    simp [part, run_isAggT hg, valT, hg, show n < X.size by omega, Array.getD_eq_getD_getElem?, show 0 < min (n + ks) X.size - n by omega]

theorem aggRep_extract {M : Nat → Prop} {w : World} {X : Array Value} {a : List PV} (h : AggRep M w X a) (n k : Nat) (hle : n + k ≤ a.length) : AggRep M w (X.extract n (n + k)) ((a.drop n).take k) := by
  refine ⟨by have := h.1; simp; omega, fun i c hi => ?_⟩
  have hil := (List.getElem?_eq_some_iff.1 hi).1
  have hik : i < k := by simp at hil; omega
  rw [List.getElem?_take, if_pos hik, List.getElem?_drop] at hi
  have := h.2 (n + i) c hi
  have hs := h.1
  have : (X.extract n (n + k)).getD i undef = X.getD (n + i) undef := by
    simp [Array.getD_eq_getD_getElem?, show i < min (n + k) X.size - n by omega, show n + i < X.size by omega]
  rw [this]
  assumption

theorem kinds_pos : ∀ {d : Nat} {T : TypeId} {ks : List CK}, kindsT P d T = some ks → isAggT P T = some false → ks.length ≠ 0 := by
  intro d T ks h hag
  cases d with
  | zero => simp [kindsT] at h
  | succ d =>
    simp only [kindsT] at h
    unfold isAggT at hag
    split at h
    · cases h; simp
    · cases h; simp
    · cases h; simp
    · rename_i fs hu
      simp [hu] at hag
    · cases h

theorem eqFields_ok {M : Nat → Prop} {w : World} {d e : Nat} (hrec : ∀ (T : TypeId) (ks : List CK), kindsT P d T = some ks → sizeT P T = some ks.length → (isAggT P T).isSome = true → ∀ (X Y : Array Value) (a b : List PV) (t : Bool), AggRep M w X a → AggRep M w Y b →
      eqKs ks a b = some t → (Op.equalIn e T (valT P T X) (valT P T Y)).run P w = .ok t w) :
    ∀ (fs : List Field) (n : Nat) (ks : List CK), kindsF P (kindsT P d) fs n = some ks → ∀ (X Y : Array Value) (a b : List PV) (t : Bool), AggRep M w X a → AggRep M w Y b → eqKs ks (a.drop n) (b.drop n) = some t →
      (Op.eqFields e X Y fs).run P w = .ok t w
  | [], n, ks, h, X, Y, a, b, t, hX, hY, ht => by
    simp [kindsF] at h; subst h
    have := eqKs_length ht
    have : t = true := by
      cases ha : a.drop n with
      | cons _ _ => rw [ha] at this; simp at this
      | nil =>
        cases hb : b.drop n with
        | cons _ _ => rw [hb] at this; simp at this
        | nil => rw [ha, hb] at ht; simpa [eqKs] using ht.symm
    subst this
    rfl
  | f :: fs, n, ks, h, X, Y, a, b, t, hX, hY, ht => by
    simp only [kindsF] at h
    split at h
    · rename_i hname
      obtain ⟨hname, hoff⟩ := hname
      split at h
      · rename_i k1 hk1
        split at h
        · rename_i hsz
          obtain ⟨hsz, hag⟩ := hsz
          split at h
          · rename_i r hr
            cases h
            obtain ⟨s, u, h1, h2, rfl⟩ := eqKs_append ht
            rw [List.drop_drop, List.drop_drop] at h2
            have hla := (eqKs_length ht).1
            have hlb := (eqKs_length ht).2
            have hp := kinds_pos hk1
            have hsa := hX.1
            have hsb := hY.1
            have hna : k1.length = 0 ∨ n + k1.length ≤ a.length := by simp at hla; omega
            have hnb : k1.length = 0 ∨ n + k1.length ≤ b.length := by simp at hlb; omega
            by_cases hk0 : k1.length = 0
            · -- no cells: the part is an aggregate of none
              have hagt : isAggT P f.type = some true := by
                obtain ⟨g, hg⟩ := Option.isSome_iff_exists.1 hag
                cases g with
                | true => exact hg
                | false => exact absurd hk0 (hp hg)
              have hpx : ∀ Z : Array Value, (part f.type Z n).run P w = .ok (valT P f.type #[]) w := by
                intro Z
                have he : Z.extract n (n + 0) = #[] := Array.size_eq_zero_iff.1 (by simp; omega)
                simp only [part, Sem.run_bind, run_isAggT hagt, Result.andThen_ok, if_true, run_sizeT hsz, hk0, Sem.run_pure, he, valT, hagt]
              have hk1n : k1 = [] := List.length_eq_zero_iff.1 hk0
              subst hk1n
              have hs1 : s = true := by simpa [eqKs] using h1.symm
              subst hs1
              have hempty : AggRep M w #[] [] := ⟨rfl, fun i c hi => by simp at hi⟩
              have heq := hrec f.type [] hk1 hsz hag #[] #[] [] [] true hempty hempty rfl
              have ih := eqFields_ok hrec fs (n + 0) r hr X Y a b u hX hY h2
              simp only [Op.eqFields]
              rw [if_pos hname, hoff]
              simp only [Sem.run_bind, hpx, Result.andThen_ok, heq, Bool.not_true, Bool.false_eq_true, if_false]
              simpa using ih
            · have hna' : n + k1.length ≤ a.length := by omega
              have hnb' : n + k1.length ≤ b.length := by omega
              have hX1 := aggRep_extract hX n k1.length hna'
              have hY1 := aggRep_extract hY n k1.length hnb'
              have heq := hrec f.type k1 hk1 hsz hag _ _ _ _ s hX1 hY1 h1
              have ih := eqFields_ok hrec fs (n + k1.length) r hr X Y a b u hX hY h2
              have px := run_part_val (n := n) (X := X) hsz hag (by omega) hp w
              have py := run_part_val (n := n) (X := Y) hsz hag (by omega) hp w
              simp only [Op.eqFields]
              rw [if_pos hname]
              rw [hoff]
              simp only [Sem.run_bind, px, py, Result.andThen_ok, heq]
              cases s with
              | true => simpa using ih
              | false => simp
          · cases h
        · cases h
      · cases h
    · cases h

theorem kinds_eq {M : Nat → Prop} {w : World} : ∀ (d e : Nat), d ≤ e → ∀ (T : TypeId) (ks : List CK), kindsT P d T = some ks → (isAggT P T).isSome = true → ∀ (X Y : Array Value) (a b : List PV) (t : Bool), AggRep M w X a → AggRep M w Y b →
      eqKs ks a b = some t → (Op.equalIn e T (valT P T X) (valT P T Y)).run P w = .ok t w
  | 0, _, _, T, ks, h, _, _, _, _, _, _, _, _, _ => by simp [kindsT] at h
  | d + 1, 0, hde, _, _, _, _, _, _, _, _, _, _, _, _ => by omega
  | d + 1, e + 1, hde, T, ks, h, hag, X, Y, a, b, t, hX, hY, ht => by
    have hl := eqKs_length ht
    have one : ∀ (k : CK), ks = [k] → ∃ x y, a = [x] ∧ b = [y] ∧ eqK k x y = some t ∧ RepP M w (X.getD 0 undef) x ∧ RepP M w (Y.getD 0 undef) y := by
      intro k hk
      subst hk
      obtain ⟨x, rfl⟩ := List.length_eq_one_iff.1 hl.1
      obtain ⟨y, rfl⟩ := List.length_eq_one_iff.1 hl.2
      refine ⟨x, y, rfl, rfl, ?_, hX.2 0 x rfl, hY.2 0 y rfl⟩
      simp only [eqKs] at ht
      split at ht
      · rename_i s u h1 h2
        cases h2
        cases ht
        simpa using h1
      · cases ht
    simp only [kindsT] at h
    split at h
    · rename_i hu
      cases h
      obtain ⟨x, y, rfl, rfl, h1, h2, h3⟩ := one _ rfl
      have hv : ∀ Z : Array Value, valT P T Z = Z.getD 0 undef := fun Z => by simp [valT, isAggT, hu]
      rw [hv, hv]
      generalize X.getD 0 undef = vx at h2 ⊢
      generalize Y.getD 0 undef = vy at h3 ⊢
      cases x <;> cases y <;> simp only [eqK, reduceCtorEq, Option.some.injEq] at h1
      cases h2; cases h3
      rw [run_equalIn_bool' w e T _ _ hu, h1]
    · rename_i k hu
      cases h
      obtain ⟨x, y, rfl, rfl, h1, h2, h3⟩ := one _ rfl
      have hv : ∀ Z : Array Value, valT P T Z = Z.getD 0 undef := fun Z => by simp [valT, isAggT, hu]
      rw [hv, hv]
      generalize X.getD 0 undef = vx at h2 ⊢
      generalize Y.getD 0 undef = vy at h3 ⊢
      cases x <;> cases y <;> simp only [eqK, reduceCtorEq] at h1
      split at h1
      · rename_i hk
        subst hk
        cases h1
        cases h2; cases h3
        rw [run_equalIn_int w e T _ _ _ _ hu]
      · cases h1
    · rename_i hu
      cases h
      obtain ⟨x, y, rfl, rfl, h1, h2, h3⟩ := one _ rfl
      have hv : ∀ Z : Array Value, valT P T Z = Z.getD 0 undef := fun Z => by simp [valT, isAggT, hu]
      rw [hv, hv]
      generalize X.getD 0 undef = vx at h2 ⊢
      generalize Y.getD 0 undef = vy at h3 ⊢
      cases x <;> cases y <;> simp only [eqK, reduceCtorEq, Option.some.injEq] at h1
      cases h2; cases h3
      rw [run_equalIn_string w e T _ _ hu, ← beq_toListBytes, h1]
    · rename_i fs hu
      split at h
      · cases h
      · rename_i hst
        have hv : ∀ Z : Array Value, valT P T Z = .agg Z := fun Z => by simp [valT, isAggT, hu]
        rw [hv, hv]
        have hfo : P.fieldsOf T = fs := by simp [Program.fieldsOf, hu]
        rw [run_equalIn_struct w e T X Y (by rw [hfo]; exact hu) (by simpa using hst), hfo]
        exact eqFields_ok (fun T' ks' h1 _ h3 X' Y' a' b' t' h4 h5 h6 => kinds_eq d e (by omega) T' ks' h1 h3 X' Y' a' b' t' h4 h5 h6) fs.toList 0 ks h X Y a b t hX hY (by simpa using ht)
    · cases h

theorem kindT_bool {T : TypeId} (h : kindT P T = .bool) : P.underlying T = some .bool := by
  unfold kindT at h
  split at h <;> first | assumption | (cases h; done) | (split at h <;> cases h)
theorem kindT_iface {T : TypeId} (h : kindT P T = .iface) : ∃ ms, P.underlying T = some (.interface ms) := by
  unfold kindT at h
  split at h <;> first | exact ⟨_, by assumption⟩ | (cases h; done) | (split at h <;> cases h)
theorem kindT_slice {T : TypeId} (h : kindT P T = .slice) : ∃ ms, P.underlying T = some (.slice ms) := by
  unfold kindT at h
  split at h <;> first | exact ⟨_, by assumption⟩ | (cases h; done) | (split at h <;> cases h)
theorem kindT_ptr {T : TypeId} (h : kindT P T = .ptr) : ∃ e n, P.underlying T = some (.pointer e) ∧ sizeT P e = some n ∧ n ≠ 0 := by
  unfold kindT at h
  split at h
  · cases h
  · cases h
  · cases h
  · rename_i e hu
    split at h
    · cases h
    · rename_i hn
      cases hs : sizeT P e with
      | none => exact absurd (.inl hs) hn
      | some n => exact ⟨e, n, hu, hs, fun h0 => hn (.inr (by rw [hs, h0]))⟩
  · cases h

/-- 'x == y', run -/
def EqRun (P : Program) (T : TypeId) (a b : Value) (t : Bool) (w : World) : Prop :=
  (binOp .eql T a b).run P w = .ok (.bool t) w ∧ (binOp .neq T a b).run P w = .ok (.bool !t) w
theorem eqRun_of {T : TypeId} {a b : Value} {t : Bool} {w : World} (h : (Op.equal T a b).run P w = .ok t w)
    (h1 : binOp .eql T a b = (do pure (.bool (← Op.equal T a b)))) (h2 : binOp .neq T a b = (do pure (.bool (!(← Op.equal T a b))))) : EqRun P T a b t w := by
  refine ⟨?_, ?_⟩
  · rw [h1]; simp [h]
  · rw [h2]; simp [h]

theorem equal_step {T : TypeId} {a b : Value} {t : Bool} {w : World} (h : ∀ d, (Op.equalIn (d + 1) T a b).run P w = .ok t w) : (Op.equal T a b).run P w = .ok t w := h 9999

theorem eq_ok {T : TypeId} {cst : Bool} {x y : AV} {a b : Value} {t : Bool} (hx : Rep M0 S a x) (hy : Rep M0 S b y) (h : aEq P T cst x y = some t) :
    EqRun P T a b t S.w ∧ ((∀ C D, ¬ (a = .agg C ∧ b = .agg D)) ∨ P.eqGuardType P.depth T = false) ∧ (¬ (a = .nilIface ∧ b = .nilIface) ∨ cst = true) := by
  unfold aEq at h
  split at h
  · rename_i p q
    split at h
    · rename_i hk
      cases h
      have := bool_rep hx; subst this
      have := bool_rep hy; subst this
      exact ⟨eqRun_of (run_equal_bool S.w T _ _ (kindT_bool hk)) rfl rfl, .inl (by simp), .inl (by simp)⟩
    · cases h
  · rename_i p q
    split at h
    · rename_i ks hks
      unfold eqAggT at hks
      split at hks
      · rename_i hg
        obtain ⟨hg1, hg2⟩ := hg
        have h1 : RepP (Avoid M0 S.m) S.w a (.agg p) := hx
        have h2 : RepP (Avoid M0 S.m) S.w b (.agg q) := hy
        cases h1 with
        | @agg C _ hn1 _ hr1 =>
          cases h2 with
          | @agg D _ hn2 _ hr2 =>
            have hv : ∀ Z : Array Value, valT P T Z = .agg Z := fun Z => by simp [valT, hg2]
            have := kinds_eq 20 Op.maxDepth (by decide) T ks hks (by simp [hg2]) C D p q t ⟨hn1, hr1⟩ ⟨hn2, hr2⟩ h
            rw [hv, hv] at this
            exact ⟨eqRun_of this rfl rfl, .inr hg1, .inl (by simp)⟩
      · cases hks
    · cases h
  · split at h
    · rename_i hc
      obtain ⟨hc, hk⟩ := hc
      cases h
      obtain ⟨ms, hu⟩ := kindT_iface hk
      have h1 : RepP (Avoid M0 S.m) S.w a .niliface := hx
      have h2 : RepP (Avoid M0 S.m) S.w b .niliface := hy
      cases h1; cases h2
      refine ⟨eqRun_of (equal_step fun d => by simp [Op.equalIn, run_underlying hu]) rfl rfl, .inl (by simp), .inr hc⟩
    · cases h
  · split at h
    · rename_i hk
      cases h
      obtain ⟨ms, hu⟩ := kindT_iface hk
      have h1 : RepP (Avoid M0 S.m) S.w a .niliface := hx
      have h2 : RepP (Avoid M0 S.m) S.w b (.iface _ _) := hy
      cases h1; cases h2
      refine ⟨eqRun_of (equal_step fun d => by simp [Op.equalIn, run_underlying hu]) rfl rfl, .inl (by simp), .inl (by simp)⟩
    · cases h
  · split at h
    · rename_i hk
      cases h
      obtain ⟨ms, hu⟩ := kindT_iface hk
      have h1 : RepP (Avoid M0 S.m) S.w a (.iface _ _) := hx
      have h2 : RepP (Avoid M0 S.m) S.w b .niliface := hy
      cases h1; cases h2
      refine ⟨eqRun_of (equal_step fun d => by simp [Op.equalIn, run_underlying hu]) rfl rfl, .inl (by simp), .inl (by simp)⟩
    · cases h
  · split at h
    · rename_i hk
      cases h
      obtain ⟨ms, hu⟩ := kindT_slice hk
      have h1 : RepP (Avoid M0 S.m) S.w a .nilslice := hx
      have h2 : RepP (Avoid M0 S.m) S.w b .nilslice := hy
      cases h1; cases h2
      refine ⟨eqRun_of (equal_step fun d => by simp [Op.equalIn, run_underlying hu]) rfl rfl, .inl (by simp), .inl (by simp)⟩
    · cases h
  · split at h
    · rename_i hk
      obtain ⟨hk, hne⟩ := hk
      cases h
      obtain ⟨ms, hu⟩ := kindT_slice hk
      have h1 : RepP (Avoid M0 S.m) S.w a .nilslice := hx
      have h2 : RepP (Avoid M0 S.m) S.w b (.slice _ _ _) := hy
      cases h1
      cases h2 with
      | slice => exact ⟨eqRun_of (equal_step fun d => by simp [Op.equalIn, run_underlying hu]) rfl rfl, .inl (by simp), .inl (by simp)⟩
      | empty => exact absurd rfl hne
    · cases h
  · split at h
    · rename_i hk
      obtain ⟨hk, hne⟩ := hk
      cases h
      obtain ⟨ms, hu⟩ := kindT_slice hk
      have h1 : RepP (Avoid M0 S.m) S.w a (.slice _ _ _) := hx
      have h2 : RepP (Avoid M0 S.m) S.w b .nilslice := hy
      cases h2
      cases h1 with
      | slice => exact ⟨eqRun_of (equal_step fun d => by simp [Op.equalIn, run_underlying hu]) rfl rfl, .inl (by simp), .inl (by simp)⟩
      | empty => exact absurd rfl hne
    · cases h
  · split at h
    · rename_i hk
      cases h
      obtain ⟨e, n, hu, hs, hn⟩ := kindT_ptr hk
      have h1 : RepP (Avoid M0 S.m) S.w a .nilptr := hx
      have h2 : RepP (Avoid M0 S.m) S.w b .nilptr := hy
      cases h1; cases h2
      refine ⟨eqRun_of (equal_step fun d => by simp [Op.equalIn, run_underlying hu]) rfl rfl, .inl (by simp), .inl (by simp)⟩
    · cases h
  · split at h
    · rename_i hk
      cases h
      obtain ⟨e, n, hu, hs, hn⟩ := kindT_ptr hk
      have h1 : RepP (Avoid M0 S.m) S.w a .nilptr := hx
      have h2 : RepP (Avoid M0 S.m) S.w b (.ptr _ _ _ _) := hy
      cases h1; cases h2
      refine ⟨eqRun_of (equal_step fun d => by simp [Op.equalIn, run_underlying hu]) rfl rfl, .inl (by simp), .inl (by simp)⟩
    · cases h
  · split at h
    · rename_i hk
      cases h
      obtain ⟨e, n, hu, hs, hn⟩ := kindT_ptr hk
      have h1 : RepP (Avoid M0 S.m) S.w a (.ptr _ _ _ _) := hx
      have h2 : RepP (Avoid M0 S.m) S.w b .nilptr := hy
      cases h1; cases h2
      refine ⟨eqRun_of (equal_step fun d => by simp [Op.equalIn, run_underlying hu]) rfl rfl, .inl (by simp), .inl (by simp)⟩
    · cases h
  · cases h

end Abs
end Go.Proofs.YtdellinghbppgaaGreatDoor
