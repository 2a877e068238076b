/-
  LAWS: functions: what is known of a call, out of what its body comes to.
-/
import Derived.Test.YtdgmmijimclooaaAbsMain
import Derived.RangeFuncLeaves
namespace Go.Proofs.Ytdgmmijimclooaa
namespace Abs
variable {P : Program} {M0 : Nat → Prop}

/-! ### results -/
def LdOk (P : Program) (M0 : Nat → Prop) (S : Mem) (T : TypeId) (v : Value) : OR → Prop
  | .val y _ => ∃ ad v', v = .pointer (some ad) ∧ (loadVar T ad).run P S.w = .ok v' S.w ∧ Rep M0 S v' y
  | .stuck => True
  | _ => False
theorem LdOk.opt {S : Mem} {T : TypeId} {ad : Addr} {v : Option AV} (h : ∀ x, v = some x → ∃ v', (loadVar T ad).run P S.w = .ok v' S.w ∧ Rep M0 S v' x) : LdOk P M0 S T (.pointer (some ad)) (optVal S.h v) := by
  cases v with
  | none => exact trivial
  | some x => obtain ⟨v', h1, h2⟩ := h x rfl; exact ⟨ad, v', rfl, h1, h2⟩
theorem load_run {S : Mem} (hS : HOk M0 S) {T : TypeId} {x : AV} {v : Value} (hx : Rep M0 S v x) : LdOk P M0 S T v (aLoad P T x S.h) := by
  unfold aLoad
  split
  · rename_i sz xs i o
    split
    · rename_i y hy
      have h : RepP (Avoid M0 S.m) S.w v (.ptr sz xs i o) := hx
      cases h with
      | ptr f hat hsz hM hc hr =>
        rename_i b off at_
        refine LdOk.opt fun z hz => ?_
        have hi := (List.getElem?_eq_some_iff.1 hy).1
        have hsy := hsz y (List.mem_of_getElem? hy)
        have hrep : CellsRep M0 S (fun j => f (i * sz + j)) (y.cells.map .p) := by
          intro j c hj
          simp only [List.getElem?_map, Option.map_eq_some_iff] at hj
          obtain ⟨q, hq, rfl⟩ := hj
          exact ⟨hsy.2 q (List.mem_of_getElem? hq), hr i j y q hy hq⟩
        have hlen : (y.cells.map AV.p).length = sz := by simpa using hsy.1
        exact run_part (P := P) (fun j => f (i * sz + j)) (b := b) (at_ := at_) (pv_cells hsy) hrep (fun j hj => by
          rw [← hc (i * sz + (o + j)) (idx_lt hi (by omega)), hat]
          simp only [Nat.add_assoc]) hz
    · exact trivial
  · rename_i id ver i o
    split
    · rename_i sz xs hid
      split
      · rename_i hv
        split
        · rename_i y hy
          obtain ⟨b, hm, rfl⟩ := live_row hx.2 hid hv
          refine LdOk.opt fun z hz => ?_
          obtain ⟨C, T', hb, hsize, hel⟩ := row_block hS hid hm
          obtain ⟨cs, h5, h6, h7⟩ := hel i y hy
          have hi := (List.getElem?_eq_some_iff.1 hy).1
          exact run_part (P := P) (fun j => C.getD (i * sz + j) undef) (b := b) (at_ := i * sz + o) h5 h7 (fun j hj => by
            rw [Nat.add_assoc]
            exact cell_block hb _ (Nat.lt_of_lt_of_le (idx_lt hi (by omega)) hsize)) hz
        · exact trivial
      · exact trivial
    · exact trivial
  · exact trivial

def AV.single : AV → Bool
  | .tuple _ => false
  | _ => true
def aRes1 (P : Program) (h : Heap) (tmps : Nat → AV) : ResultVar → Option AV
  | .tmp t => some (tmps t)
  | .cell a T => match aLoad P T (tmps a) h with | .val v _ => some v | _ => none
def aRes (P : Program) (h : Heap) (tmps : Nat → AV) : List ResultVar → Option (List AV)
  | [] => some []
  | r :: rs => match aRes1 P h tmps r, aRes P h tmps rs with | some v, some l => if v.single = true then some (v :: l) else none | _, _ => none
def aResult : Option (List AV) → Option AV
  | some [v] => some v
  | some l => some (mkTuple l)
  | none => none

theorem repA_of_single {S : Mem} {v : Value} {x : AV} (hx : x.single = true) (h : Rep M0 S v x) : RepA M0 S v x := by
  cases x <;> first | exact h | cases hx

def resF (tmps : Array Value) : ResultVar → Sem Value
  | .tmp t => pure (tmps.getD t undef)
  | .cell a t => do loadVar t (← asAddr (tmps.getD a undef))
theorem results_eq (fn : Func) (tmps : Array Value) : results fn tmps = (fn.results.mapM (resF tmps) >>= fun vs => pure (if h : vs.size = 1 then vs[0] else .tuple vs)) := by
  unfold results
  refine congrArg (· >>= _) (congrArg (fun g => Array.mapM g fn.results) ?_)
  funext r
  cases r <;> rfl
theorem aRes_run {S : Mem} (hS : HOk M0 S) {tmps : Array Value} {T : Nat → AV} (ht : ∀ t, Rep M0 S (tmps.getD t undef) (T t)) : ∀ (rs : List ResultVar) (l : List AV), aRes P S.h T rs = some l →
    ∃ vs : List Value, (rs.mapM (resF tmps)).run P S.w = .ok vs S.w ∧ vs.length = l.length ∧ ∀ (i : Nat) (c : AV), l[i]? = some c → Rep M0 S (vs.getD i undef) c ∧ c.single = true
  | [], l, h => by
    cases h
    exact ⟨[], by simp, rfl, by simp⟩
  | r :: rs, l, h => by
    unfold aRes at h
    split at h
    · rename_i v l' h1 h2
      split at h
      · rename_i hs
        cases h
        obtain ⟨vs, h3, h4, h5⟩ := aRes_run hS ht rs l' h2
        have hv : ∃ v', (resF tmps r).run P S.w = .ok v' S.w ∧ Rep M0 S v' v := by
          cases r with
          | tmp t => cases h1; exact ⟨_, by simp [resF], ht t⟩
          | cell a t =>
            unfold aRes1 at h1
            dsimp only at h1
            have hl := load_run (P := P) (T := t) hS (ht a)
            split at h1
            · rename_i y hh hy
              cases h1
              rw [hy] at hl
              obtain ⟨ad, v', e1, e2, e3⟩ := hl
              exact ⟨v', by simp [resF, e1, asAddr, e2], e3⟩
            · cases h1
        obtain ⟨v', h6, h7⟩ := hv
        refine ⟨v' :: vs, ?_, by simp [h4], fun i c hi => ?_⟩
        · rw [List.mapM_cons]
          simp only [Sem.run_bind, h6, Result.andThen, h3]
          simp
        · cases i with
          | zero => cases hi; exact ⟨h7, hs⟩
          | succ i => exact h5 i c hi
      · cases h
    · cases h

theorem results_run {S : Mem} (hS : HOk M0 S) {fn : Func} {tmps : Array Value} {T : Nat → AV} (ht : ∀ t, Rep M0 S (tmps.getD t undef) (T t)) {v : AV} (h : aResult (aRes P S.h T fn.results.toList) = some v) :
    ∃ v', (results fn tmps).run P S.w = .ok v' S.w ∧ Rep M0 S v' v := by
  cases hl : aRes P S.h T fn.results.toList with
  | none => rw [hl] at h; cases h
  | some l =>
    rw [hl] at h
    obtain ⟨vs, h1, h2, h3⟩ := aRes_run hS ht _ _ hl
    have hrun : (results fn tmps).run P S.w = .ok (if h : vs.toArray.size = 1 then vs.toArray[0] else .tuple vs.toArray) S.w := by
      rw [results_eq, Array.mapM_eq_mapM_toList]
      simp only [map_eq_pure_bind, Sem.run_bind, Sem.run_pure, Result.andThen, h1]
    refine ⟨_, hrun, ?_⟩
    by_cases h4 : l.length = 1
    · obtain ⟨y, rfl⟩ := List.length_eq_one_iff.1 h4
      have h5 : vs.length = 1 := h2
      obtain ⟨u, rfl⟩ := List.length_eq_one_iff.1 h5
      cases h
      simpa using (h3 0 _ rfl).1
    · have h5 : ¬ vs.toArray.size = 1 := by simp; omega
      have h6 : v = mkTuple l := by
        cases l with
        | nil => cases h; rfl
        | cons y l => cases l with
          | nil => exact absurd rfl h4
          | cons z l => cases h; rfl
      rw [dif_neg h5, h6]
      refine mkTuple_rep ⟨by simp [h2], fun i c hi => ?_⟩
      have := h3 i c hi
      refine repA_of_single this.2 ?_
      simpa [Array.getD_eq_getD_getElem?, List.getD_eq_getElem?_getD] using this.1

end Abs
end Go.Proofs.Ytdgmmijimclooaa
