/-
  LAWS: objects that are no rows are replaced: loops over functions, walks over texts.
-/
import Derived.Test.YthekmbikolpmlaaAbsOpsE
import Derived.RangeFuncRecord
namespace Go.Proofs.Ythekmbikolpmlaa
namespace Abs
set_option linter.unusedSimpArgs false
variable {P : Program} {M0 : Nat → Prop}

theorem getD_some_get {m : List (Option Nat)} {id b : Nat} (h : m.getD id none = some b) : m[id]? = some (some b) := by
  rw [List.getD_eq_getElem?_getD] at h
  cases hq : m[id]? with
  | none => simp [hq] at h
  | some z => simp [hq] at h; rw [h]

theorem shape_putObj {w : World} {bl : Nat} {x ob : Obj} (hx : w.heap[bl]? = some x) (h1 : w.shape? bl = none) (h2 : ∀ C T f, ob ≠ .cells C T f) (c : Nat) : (w.putObj bl ob).shape? c = w.shape? c := by
  by_cases hc : c = bl
  · subst hc
    rw [h1]
    unfold World.shape?
    rw [World.putObj_heap_same (Array.getElem?_eq_some_iff.1 hx).1]
    cases ob <;> first | rfl | exact absurd rfl (h2 _ _ _)
  · unfold World.shape?
    rw [World.putObj_heap_other hc]

theorem putO_ok {S : Mem} (hS : HOk M0 S) {id bl : Nat} {o0 o : AObj} {x ob : Obj} (hid : S.m.getD id none = some bl) (h0 : S.h[id]? = some o0) (hx : S.w.heap[bl]? = some x)
    (h1 : S.w.shape? bl = none) (h2 : ∀ C T f, ob ≠ .cells C T f) (hev : ObjEv (some bl) o0 (some bl) o)
    (hob : Ev S.h.length S ⟨S.m, S.h.set id o, S.w.putObj bl ob⟩ → (S.w.putObj bl ob).heap[bl]? = some ob → ObjOk M0 ⟨S.m, S.h.set id o, S.w.putObj bl ob⟩ (some bl) o) :
    HOk M0 ⟨S.m, S.h.set id o, S.w.putObj bl ob⟩ ∧ Ev S.h.length S ⟨S.m, S.h.set id o, S.w.putObj bl ob⟩ := by
  have hlt := (Array.getElem?_eq_some_iff.1 hx).1
  have hidlt := (List.getElem?_eq_some_iff.1 h0).1
  have hown : Own S.m bl := List.mem_of_getElem? (getD_some_get hid)
  have he : Ev S.h.length S ⟨S.m, S.h.set id o, S.w.putObj bl ob⟩ :=
    { fr := ⟨rfl, rfl, rfl, by simp [World.putObj], fun c _ hn => World.putObj_heap_other (fun e => hn (e ▸ hown)), fun c _ => shape_putObj hx h1 h2 c⟩
      sub := fun c h => .inl h
      obj := fun y oy hy hoy => by
        by_cases hyi : y = id
        · subst hyi
          rw [h0] at hoy; cases hoy
          refine ⟨o, by simp [hidlt], ?_⟩
          show ObjEv (S.m.getD y none) _ (S.m.getD y none) _
          rw [hid]; exact hev
        · exact ⟨oy, by simp [List.getElem?_set_ne (Ne.symm hyi), hoy], ObjEv.refl _ _⟩ }
  refine ⟨?_, he⟩
  exact
    { len := by simpa using hS.len
      lt := fun c h => Nat.lt_of_lt_of_le (hS.lt c h) he.fr.size
      m0 := fun c h => ⟨Nat.lt_of_lt_of_le (hS.m0 c h).1 he.fr.size, (hS.m0 c h).2⟩
      inj := hS.inj
      obj := fun y oy hoy => by
        by_cases hyi : y = id
        · subst hyi
          have hoy' : (S.h.set y o)[y]? = some oy := hoy
          rw [List.getElem?_set_self hidlt] at hoy'
          cases hoy'
          show ObjOk M0 _ (S.m.getD y none) _
          rw [hid]
          exact hob he (World.putObj_heap_same hlt)
        · have hoy' : (S.h.set id o)[y]? = some oy := hoy
          rw [List.getElem?_set_ne (Ne.symm hyi)] at hoy'
          refine (hS.obj y oy hoy').keep he fun c hc => World.putObj_heap_other fun e => hyi ?_
          subst e
          exact hS.inj y id c (getD_some_get hc) (getD_some_get hid) }

theorem loop_shape {w : World} {bl : Nat} {r : Loop} (h : w.heap[bl]? = some (.loop r)) : w.shape? bl = none := by
  unfold World.shape?; rw [h]
theorem deferred_shape {w : World} {bl : Nat} {ds : Option (List Deferred)} (h : w.heap[bl]? = some (.deferred ds)) : w.shape? bl = none := by
  unfold World.shape?; rw [h]

/-! walks over texts -/
theorem iter_shape {w : World} {bl pos : Nat} {s : ByteArray} (h : w.heap[bl]? = some (.stringIter s pos)) : w.shape? bl = none := by
  unfold World.shape?; rw [h]
theorem range_ok {S : Mem} (hS : HOk M0 S) {T : TypeId} {v : Value} {x : AV} (hx : Rep M0 S v x) : ValOk P M0 S (Instr.range T v) (aRange P T x S.h) := by
  unfold aRange
  split
  · rename_i s
    split
    · rename_i hT
      have h1 : RepP (Avoid M0 S.m) S.w v (.str s) := hx
      cases h1
      have hu : P.underlying T = some .string := by
        unfold isStringT at hT
        split at hT
        · assumption
        · cases hT
      have hrun := run_range_string (P := P) S.w T s hu
      refine ⟨S.new (.strIter s 0) (.stringIter s 0), _, rfl, hrun, Ev.new _ M0 hS (Nat.le_refl _) _ _, hS.new ⟨_, rfl, heap_alloc_eq _ _⟩, ?_⟩
      refine ⟨⟨S.w.heap.size, rfl⟩, .inr ⟨⟨.strIter s 0, by simp [Mem.new], rfl⟩, S.w.heap.size, ?_, rfl⟩⟩
      have := hS.len
      simp [Mem.new, ← this]
    · exact trivial
  · exact trivial
theorem next_ok {S : Mem} (hS : HOk M0 S) {b : Bool} {T : TypeId} {v : Value} {x : AV} (hx : Rep M0 S v x) : ValOk P M0 S (Instr.next v b T) (aNext b x S.h) := by
  unfold aNext
  split
  · rename_i id
    split
    · rename_i s pos hid
      obtain ⟨_, hd | ⟨_, bl, hm, hv⟩⟩ := hx
      · rw [hid] at hd; cases hd
      · have hv' : v = .pointer (some ⟨bl, 0, none⟩) := hv
        subst hv'
        obtain ⟨bl', hm', hb⟩ := hS.obj id _ hid
        rw [hm] at hm'; cases hm'
        have hlt := (Array.getElem?_eq_some_iff.1 hb).1
        split
        · rename_i hp
          obtain ⟨hk, hev⟩ := putO_ok hS (o := .strIter s (pos + (Utf8.decode s pos).2)) (ob := .stringIter s (pos + (Utf8.decode s pos).2)) hm hid hb (iter_shape hb) (by intro C T f; simp)
            (.inr (.inr ⟨by simp [AObj.tag], rfl, rfl⟩)) (fun _ hx => ⟨bl, rfl, hx⟩)
          refine ⟨_, .tuple #[.bool true, .int .i64 pos, .int .i32 (Utf8.decode s pos).1], rfl, ?_, hev, hk, ?_⟩
          · simp only [Instr.next, getObj, setObj, Sem.run_bind, Sem.run, hb, Result.andThen, hp, if_true]
            simp [goInt, Sem.run, World.putObj, hb]
          · refine RepP.tuple rfl fun i c hi => ?_
            match i, hi with
            | 0, hi => cases hi; exact .bool _
            | 1, hi => cases hi; exact .int _ _
            | 2, hi => cases hi; exact .int _ _
        · rename_i hp
          refine ⟨S, .tuple #[.bool false], rfl, ?_, Ev.refl _ _, hS, ?_⟩
          · simp [Instr.next, getObj, Sem.run, hb, hp]
          · refine RepP.tuple rfl fun i c hi => ?_
            match i, hi with
            | 0, hi => cases hi; exact .bool _
    · exact trivial
  · exact trivial
theorem typeAssert_ok {S : Mem} (hS : HOk M0 S) {T A : TypeId} {ok : Bool} {v : Value} {x : AV} (hx : Rep M0 S v x) : ValOk P M0 S (Instr.typeAssert v T A ok) (aTypeAssert P A ok x S.h) := by
  unfold aTypeAssert
  split
  · rename_i t q hA
    split
    · rename_i ht
      subst ht
      have h1 : RepP (Avoid M0 S.m) S.w v (.iface t q) := hx
      cases h1 with
      | @iface _ v' _ h2 =>
        unfold isIfaceT at hA
        split at hA
        · cases hA
        · rename_i d hd hu
          refine ⟨S, if ok then .tuple #[v', .bool true] else v', rfl, ?_, Ev.refl _ _, hS, ?_⟩
          · unfold Instr.typeAssert
            simp only [Sem.run_bind, run_underlying hu, Result.andThen_ok]
            cases d <;> first | (cases ok <;> simp; done) | exact absurd rfl (hd _)
          · cases ok
            · exact rep0_of_pv h2
            · refine rep0_of_pv (RepP.tuple rfl fun i c hi => ?_)
              match i, hi with
              | 0, hi => cases hi; exact h2
              | 1, hi => cases hi; exact .bool _
        · cases hA
    · exact trivial
  · exact trivial

end Abs
end Go.Proofs.Ythekmbikolpmlaa
