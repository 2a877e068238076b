/-
  LAWS: objects that are no rows are replaced: loops over functions, walks over texts.
-/
import Derived.Test.YtbojkcmohgbpaaaGreatDoorAbsOpsE
import Derived.RangeFuncRecord
namespace Go.Proofs.YtbojkcmohgbpaaaGreatDoor
namespace Abs
set_option linter.unusedSimpArgs false
variable {P : Program} {M0 : Nat → Prop}
theorem getD_some_get {m : List (Option Nat)} {id b : Nat} (h : m.getD id none = some b) : m[id]? = some (some b) := by
  rw [List.getD_eq_getElem?_getD] at h
  cases hq : m[id]? with
  | none => simp [hq] at h
  | some z => simp [hq] at h; rw [h]
theorem shape_putObj {w : World} {bl : Nat} {x ob : Obj} (hx : w.heap[bl]? = some x) (h1 : w.shape? bl = none) (h2 : ∀ C T f, ob ≠ .cells C T f) (c : Nat) : (w.putObj bl ob).shape? c = w.shape? c := by
  by_cases hc : c = bl
  · subst hc
    rw [h1]
    unfold World.shape?
    rw [World.putObj_heap_same (Array.getElem?_eq_some_iff.1 hx).1]
    cases ob <;> first | rfl | exact absurd rfl (h2 _ _ _)
  · unfold World.shape?
    rw [World.putObj_heap_other hc]
theorem putO_ok {S : Mem} (hS : HOk P M0 S) {id bl : Nat} {o0 o : AObj} {x ob : Obj} (hid : S.m.getD id none = some bl) (h0 : S.h[id]? = some o0) (hx : S.w.heap[bl]? = some x)
    (h1 : S.w.shape? bl = none) (h2 : ∀ C T f, ob ≠ .cells C T f) (hev : ObjEv (some bl) o0 (some bl) o)
    (hob : Ev S.h.length S ⟨S.m, S.h.set id o, S.w.putObj bl ob⟩ → (S.w.putObj bl ob).heap[bl]? = some ob → ObjOk P M0 ⟨S.m, S.h.set id o, S.w.putObj bl ob⟩ (some bl) o) :
    HOk P M0 ⟨S.m, S.h.set id o, S.w.putObj bl ob⟩ ∧ Ev S.h.length S ⟨S.m, S.h.set id o, S.w.putObj bl ob⟩ := by
  have hlt := (Array.getElem?_eq_some_iff.1 hx).1
  have hidlt := (List.getElem?_eq_some_iff.1 h0).1
  have hown : Own S.m bl := List.mem_of_getElem? (getD_some_get hid)
  have he : Ev S.h.length S ⟨S.m, S.h.set id o, S.w.putObj bl ob⟩ :=
    { fr := ⟨rfl, rfl, rfl, by simp [World.putObj], fun c _ hn => World.putObj_heap_other (fun e => hn (e ▸ hown)), fun c _ => shape_putObj hx h1 h2 c⟩
      sub := fun c h => .inl h
      obj := fun y oy hy hoy => by
        by_cases hyi : y = id
        · subst hyi
          rw [h0] at hoy; cases hoy
          refine ⟨o, by simp [hidlt], ?_⟩
          show ObjEv (S.m.getD y none) _ (S.m.getD y none) _
          rw [hid]; exact hev
        · exact ⟨oy, by simp [List.getElem?_set_ne (Ne.symm hyi), hoy], ObjEv.refl _ _⟩ }
  refine ⟨?_, he⟩
  exact
    { len := by simpa using hS.len
      lt := fun c h => Nat.lt_of_lt_of_le (hS.lt c h) he.fr.size
      m0 := fun c h => ⟨Nat.lt_of_lt_of_le (hS.m0 c h).1 he.fr.size, (hS.m0 c h).2⟩
      inj := hS.inj
      obj := fun y oy hoy => by
        by_cases hyi : y = id
        · subst hyi
          have hoy' : (S.h.set y o)[y]? = some oy := hoy
          rw [List.getElem?_set_self hidlt] at hoy'
          cases hoy'
          show ObjOk P M0 _ (S.m.getD y none) _
          rw [hid]
          exact hob he (World.putObj_heap_same hlt)
        · have hoy' : (S.h.set id o)[y]? = some oy := hoy
          rw [List.getElem?_set_ne (Ne.symm hyi)] at hoy'
          refine (hS.obj y oy hoy').keep he fun c hc => World.putObj_heap_other fun e => hyi ?_
          subst e
          exact hS.inj y id c (getD_some_get hc) (getD_some_get hid)
      gl := he.glob hS.gl }
theorem loop_shape {w : World} {bl : Nat} {r : Loop} (h : w.heap[bl]? = some (.loop r)) : w.shape? bl = none := by
  unfold World.shape?; rw [h]
theorem deferred_shape {w : World} {bl : Nat} {ds : Option (List Deferred)} (h : w.heap[bl]? = some (.deferred ds)) : w.shape? bl = none := by
  unfold World.shape?; rw [h]
theorem iter_shape {w : World} {bl pos : Nat} {s : ByteArray} (h : w.heap[bl]? = some (.stringIter s pos)) : w.shape? bl = none := by
  unfold World.shape?; rw [h]
theorem range_ok {S : Mem} (hS : HOk P M0 S) {T : TypeId} {v : Value} {x : AV} (hx : Rep M0 S v x) : ValOk P M0 S (Instr.range T v) (aRange P T x S.h) := by
  unfold aRange
  split
  · rename_i s
    split
    · rename_i hT
      have h1 : RepP (Avoid M0 S.m) S.w v (.str s) := hx
      cases h1
      have hu : P.underlying T = some .string := by
        unfold isStringT at hT
        split at hT
        · assumption
        · cases hT
      have hrun := run_range_string (P := P) S.w T s hu
      refine ⟨S.new (.strIter s 0) (.stringIter s 0), _, rfl, hrun, Ev.new _ M0 hS (Nat.le_refl _) _ _, hS.new ⟨_, rfl, heap_alloc_eq _ _⟩, ?_⟩
      refine ⟨⟨S.w.heap.size, rfl⟩, .inr ⟨⟨.strIter s 0, by simp [Mem.new], rfl⟩, S.w.heap.size, ?_, rfl⟩⟩
      have := hS.len
      simp [Mem.new, ← this]
    · exact trivial
  · exact trivial
theorem next_ok {S : Mem} (hS : HOk P M0 S) {b : Bool} {T : TypeId} {v : Value} {x : AV} (hx : Rep M0 S v x) : ValOk P M0 S (Instr.next v b T) (aNext b x S.h) := by
  unfold aNext
  split
  · rename_i id
    split
    · rename_i s pos hid
      obtain ⟨_, hd | ⟨_, bl, hm, hv⟩⟩ := hx
      · rw [hid] at hd; cases hd
      · have hv' : v = .pointer (some ⟨bl, 0, none⟩) := hv
        subst hv'
        obtain ⟨bl', hm', hb⟩ := hS.obj id _ hid
        rw [hm] at hm'; cases hm'
        have hlt := (Array.getElem?_eq_some_iff.1 hb).1
        split
        · rename_i hp
          obtain ⟨hk, hev⟩ := putO_ok hS (o := .strIter s (pos + (Utf8.decode s pos).2)) (ob := .stringIter s (pos + (Utf8.decode s pos).2)) hm hid hb (iter_shape hb) (by intro C T f; simp)
            (.inr (.inr ⟨by simp [AObj.tag], rfl, rfl⟩)) (fun _ hx => ⟨bl, rfl, hx⟩)
          refine ⟨_, .tuple #[.bool true, .int .i64 pos, .int .i32 (Utf8.decode s pos).1], rfl, ?_, hev, hk, ?_⟩
          · simp only [Instr.next, getObj, setObj, Sem.run_bind, Sem.run, hb, Result.andThen, hp, if_true]
            simp [goInt, Sem.run, World.putObj, hb]
          · refine RepP.tuple rfl fun i c hi => ?_
            match i, hi with
            | 0, hi => cases hi; exact .bool _
            | 1, hi => cases hi; exact .int _ _
            | 2, hi => cases hi; exact .int _ _
        · rename_i hp
          refine ⟨S, .tuple #[.bool false], rfl, ?_, Ev.refl _ _, hS, ?_⟩
          · simp [Instr.next, getObj, Sem.run, hb, hp]
          · refine RepP.tuple rfl fun i c hi => ?_
            match i, hi with
            | 0, hi => cases hi; exact .bool _
    · exact trivial
  · exact trivial
theorem map_shape {w : World} {bl clk : Nat} {C : Array MapEntry} (h : w.heap[bl]? = some (.map C clk)) : w.shape? bl = none := by
  unfold World.shape?; rw [h]
theorem makeMap_ok {S : Mem} (hS : HOk P M0 S) {T : TypeId} : ValOk P M0 S (Instr.makeMap T none) (.val (.ref .mp S.h.length) (S.h ++ [.mp []])) := by
  refine ⟨S.new (.mp []) (.map #[] 0), .map (some S.w.heap.size), rfl, rfl, Ev.new _ M0 hS (Nat.le_refl _) _ _, hS.new ⟨_, #[], 0, rfl, heap_alloc_eq _ _, trivial⟩, ?_⟩
  refine ⟨⟨S.w.heap.size, rfl⟩, .inr ⟨⟨.mp [], by simp [Mem.new], rfl⟩, S.w.heap.size, ?_, rfl⟩⟩
  have := hS.len
  simp [Mem.new, ← this]
def NowKey (d : TypeDesc) (kv : Value) (k : PV) : Prop := (∃ kk j a, d = .int kk ∧ kv = .int j a ∧ k = .int j a) ∨ ∃ s, d = .string ∧ kv = .string s ∧ k = .str s
theorem keyOk_now {K : TypeId} {k : PV} {M : Nat → Prop} {w : World} {kv : Value} (h : keyOk P K k = true) (hr : RepP M w kv k) : ∃ d, P.underlying K = some d ∧ NowKey d kv k := by
  unfold keyOk at h
  split at h
  · rename_i j a hk
    cases hr
    unfold keyK at hk
    split at hk
    · rename_i kk hu
      exact ⟨_, hu, .inl ⟨kk, j, a, rfl, rfl, rfl⟩⟩
    · cases hk
    · cases hk
  · rename_i s hk
    cases hr
    unfold keyK at hk
    split at hk
    · cases hk
    · rename_i hu
      exact ⟨_, hu, .inr ⟨s, rfl, rfl, rfl⟩⟩
    · cases hk
  · cases h
theorem same_now {d : TypeDesc} {kv qv : Value} {k q : PV} {M : Nat → Prop} {w : World} {b : Bool} (hk : NowKey d kv k) (hq : RepP M w qv q) (h : keyEq k q = some b) : Instr.sameNow d kv qv = some b := by
  rcases hk with ⟨kk, j, a, rfl, rfl, rfl⟩ | ⟨s, rfl, rfl, rfl⟩
  · cases q <;> first | (cases h; done) | skip
    cases hq
    exact h
  · cases q <;> first | (cases h; done) | skip
    cases hq
    exact h
theorem same_key {d : TypeDesc} {kv qv : Value} {k q : PV} {M : Nat → Prop} {w : World} (hk : NowKey d kv k) (hq : RepP M w qv q) (h : keyEq k q = some true) : qv = kv := by
  rcases hk with ⟨kk, j, a, rfl, rfl, rfl⟩ | ⟨s, rfl, rfl, rfl⟩
  · cases q <;> first | (cases h; done) | skip
    cases hq
    simp only [keyEq] at h
    split at h
    · rename_i e
      subst e
      rw [eq_of_beq (Option.some.inj h)]
    · cases h
  · cases q <;> first | (cases h; done) | skip
    cases hq
    rename_i s'
    have h' : (s == s') = true := Option.some.inj h
    cases s with | mk x => cases s' with | mk y => rw [show x = y from eq_of_beq (show (x == y) = true from h')]
theorem find_rel {R : Value → AV → Prop} {M : Nat → Prop} {w : World} (hR : ∀ v q, R v (.p q) → RepP M w v q) {d : TypeDesc} {kv : Value} {k : PV} (hk : NowKey d kv k) :
    ∀ {C : List MapEntry} {es : List (PV × PV)} {r : Option PV} (i : Nat), MapRel R C es → mapGet k es = some r →
      match r with | none => Instr.findNow d kv C i = some none | some v => ∃ j u, Instr.findNow d kv C i = some (some (j, u)) ∧ R u (.p v)
  | [], [], r, i, _, h => by cases h; rfl
  | [], _ :: _, _, _, hm, _ => hm.elim
  | _ :: _, [], _, _, hm, _ => hm.elim
  | e :: C, (q, v) :: es, r, i, hm, h => by
    rw [mapGet] at h
    split at h
    · rename_i hq
      cases h
      refine ⟨i, e.val, ?_, hm.2.1⟩
      rw [Instr.findNow, same_now hk (hR _ _ hm.1) hq]
    · rename_i hq
      have ih := find_rel hR hk (i + 1) hm.2.2 h
      rw [Instr.findNow, same_now hk (hR _ _ hm.1) hq]
      exact ih
    · cases h
theorem put_rel {R : Value → AV → Prop} {M : Nat → Prop} {w : World} (hR : ∀ v q, R v (.p q) → RepP M w v q) {d : TypeDesc} {kv u : Value} {k v : PV} (hk : NowKey d kv k) (hkr : R kv (.p k)) (hu : R u (.p v)) :
    ∀ {C : List MapEntry} {es es' : List (PV × PV)} (i : Nat), MapRel R C es → mapPut k v es = some es' →
      (∃ j x e, Instr.findNow d kv C i = some (some (i + j, x)) ∧ C[j]? = some e ∧ e.key = kv ∧ MapRel R (C.modify j fun e => { e with key := kv, val := u }) es') ∨
      (Instr.findNow d kv C i = some none ∧ ∀ n, MapRel R (C ++ [{ key := kv, val := u, born := n }]) es')
  | [], [], es', i, _, h => by cases h; exact .inr ⟨rfl, fun n => ⟨hkr, hu, trivial⟩⟩
  | [], _ :: _, _, _, hm, _ => hm.elim
  | _ :: _, [], _, _, hm, _ => hm.elim
  | e :: C, (q, x) :: es, es', i, hm, h => by
    rw [mapPut] at h
    split at h
    · rename_i hq
      cases h
      refine .inl ⟨0, e.val, e, ?_, rfl, same_key hk (hR _ _ hm.1) hq, ?_⟩
      · rw [Instr.findNow, same_now hk (hR _ _ hm.1) hq]; rfl
      · exact ⟨hkr, hu, hm.2.2⟩
    · rename_i hq
      simp only [Option.map_eq_some_iff] at h
      obtain ⟨r, h1, rfl⟩ := h
      rcases put_rel hR hk hkr hu (i + 1) hm.2.2 h1 with ⟨j, y, e', h2, h3, h4, h5⟩ | ⟨h2, h3⟩
      · refine .inl ⟨j + 1, y, e', ?_, by simpa using h3, h4, ?_⟩
        · rw [Instr.findNow, same_now hk (hR _ _ hm.1) hq]
          have e0 : i + (j + 1) = i + 1 + j := by omega
          rw [e0]; exact h2
        · rw [List.modify_succ_cons]
          exact ⟨hm.1, hm.2.1, h5⟩
      · refine .inr ⟨?_, fun n => ⟨hm.1, hm.2.1, h3 n⟩⟩
        rw [Instr.findNow, same_now hk (hR _ _ hm.1) hq]
        exact h2
    · cases h
theorem checkKey_now {b : Bool} {K : TypeId} {d : TypeDesc} {kv : Value} {k : PV} (hk : NowKey d kv k) (hu : P.underlying K = some d) (w : World) : (Instr.checkKey b 10000 K kv).run P w = .ok () w := by
  unfold Instr.checkKey
  rcases hk with ⟨kk, j, a, rfl, rfl, rfl⟩ | ⟨s, rfl, rfl, rfl⟩
  · simp only [Sem.run_bind, run_underlying hu, Result.andThen_ok]; rfl
  · simp only [Sem.run_bind, run_underlying hu, Result.andThen_ok]; rfl
theorem mapT_some {T K E : TypeId} (h : mapT P T = some (K, E)) : P.underlying T = some (.map K E) := by
  unfold mapT at h
  split at h
  · rename_i hu; cases h; exact hu
  · cases h
theorem mp_block {S : Mem} (hS : HOk P M0 S) {v : Value} {id : Nat} {es : List (PV × PV)} (hx : Rep M0 S v (.ref .mp id)) (hid : S.h[id]? = some (.mp es)) :
    ∃ bl C clk, v = .map (some bl) ∧ S.m.getD id none = some bl ∧ S.w.heap[bl]? = some (.map C clk) ∧ MapRel (RepS M0 S) C.toList es := by
  obtain ⟨_, hd | ⟨_, bl, hm, hv⟩⟩ := hx
  · rw [hid] at hd; cases hd
  · obtain ⟨bl', C, clk, hm', hb, hrel⟩ := hS.obj id _ hid
    rw [hm] at hm'; cases hm'
    exact ⟨bl, C, clk, hv, hm, hb, hrel⟩
theorem lookup_ok {S : Mem} (hS : HOk P M0 S) {T : TypeId} {v u : Value} {x y : AV} {ok : Bool} (hx : Rep M0 S v x) (hy : Rep M0 S u y) : ValOk P M0 S (Instr.lookup T v u ok) (aLookup P T x y ok S.h) := by
  unfold aLookup
  split
  · rename_i K E id k hT
    have hu := mapT_some hT
    split
    · rename_i es z hid hz
      split
      · rename_i hko
        have hyr : RepP (Avoid M0 S.m) S.w u k := hy
        obtain ⟨d, hd, hk⟩ := keyOk_now hko hyr
        obtain ⟨bl, C, clk, rfl, hm, hb, hrel⟩ := mp_block hS hx hid
        obtain ⟨zv, hz1, hz2⟩ := zeroT_some hz S.w
        have hfk : ∀ q, Instr.findNow d u C.toList 0 = some q → (Instr.findKey K u C.toList).run P S.w = .ok q S.w := fun q hq => by
          unfold Instr.findKey
          simp only [Sem.run_bind, run_underlying hd, Result.andThen_ok]
          rw [hq]; rfl
        have hrun : ∀ q, Instr.findNow d u C.toList 0 = some q → (Instr.lookup T (.map (some bl)) u ok).run P S.w = .ok (match q with
            | some (_, x) => if ok then .tuple #[x, .bool true] else x
            | none => if ok then .tuple #[zv, .bool false] else zv) S.w := fun q hq => by
          unfold Instr.lookup
          simp only [Sem.run_bind, run_underlying hu, Result.andThen_ok, getObj, Sem.run, hb, checkKey_now hk hd]
          simp [Sem.run_bind, checkKey_now hk hd, hfk q hq]
          cases q with
          | none => simp [hz1, Sem.run_bind]
          | some x => rfl
        have hRR : ∀ (v : Value) (q : PV), RepS M0 S v (.p q) → RepP (Avoid M0 S.m) S.w v q := fun v q h => h
        split
        · rename_i q hg
          obtain ⟨j, x, h1, h2⟩ := find_rel hRR hk 0 hrel hg
          refine ⟨S, _, rfl, hrun _ h1, Ev.refl _ _, hS, ?_⟩
          have h3 := hRR _ _ h2
          cases ok
          · exact rep0_of_pv h3
          · refine rep0_of_pv (RepP.tuple rfl fun i c hi => ?_)
            match i, hi with
            | 0, hi => cases hi; exact h3
            | 1, hi => cases hi; exact .bool _
        · rename_i hg
          have h1 := find_rel hRR hk 0 hrel hg
          refine ⟨S, _, rfl, hrun _ h1, Ev.refl _ _, hS, ?_⟩
          have h3 : RepP (Avoid M0 S.m) S.w zv z := constPV_rep hz2
          cases ok
          · exact rep0_of_pv h3
          · refine rep0_of_pv (RepP.tuple rfl fun i c hi => ?_)
            match i, hi with
            | 0, hi => cases hi; exact h3
            | 1, hi => cases hi; exact .bool _
        · exact trivial
      · exact trivial
    · exact trivial
  · exact trivial
theorem sameBits_now {d : TypeDesc} {kv : Value} {k : PV} (hk : NowKey d kv k) : Instr.sameBits 10000 kv kv = true := by
  rcases hk with ⟨kk, j, a, rfl, rfl, rfl⟩ | ⟨s, rfl, rfl, rfl⟩
  · simp [Instr.sameBits]
  · unfold Instr.sameBits
    cases s with | mk x => exact (beq_self_eq_true x : (x == x) = true)
theorem mapUpdate_ok {S : Mem} (hS : HOk P M0 S) {T : TypeId} {v u c : Value} {x y z : AV} (hx : Rep M0 S v x) (hy : Rep M0 S u y) (hz : Rep M0 S c z) : UnitOk P M0 S (Instr.mapUpdate T v u c) (aMapUpdate P T x y z S.h) := by
  unfold aMapUpdate
  split
  · rename_i K E id k q hT
    have hu := mapT_some hT
    split
    · rename_i es hid
      split
      · rename_i hko
        have hyr : RepP (Avoid M0 S.m) S.w u k := hy
        obtain ⟨d, hd, hk⟩ := keyOk_now hko hyr
        obtain ⟨bl, C, clk, rfl, hm, hb, hrel⟩ := mp_block hS hx hid
        have hfk : ∀ q, Instr.findNow d u C.toList 0 = some q → (Instr.findKey K u C.toList).run P S.w = .ok q S.w := fun q hq => by
          unfold Instr.findKey
          simp only [Sem.run_bind, run_underlying hd, Result.andThen_ok]
          rw [hq]; rfl
        have hRR : ∀ (v : Value) (q : PV), RepS M0 S v (.p q) → RepP (Avoid M0 S.m) S.w v q := fun v q h => h
        split
        · rename_i es' hp
          rcases put_rel hRR hk (show RepS M0 S u (.p k) from hyr) (show RepS M0 S c (.p q) from hz) 0 hrel hp with ⟨j, x, e, h1, h2, h3, h4⟩ | ⟨h1, h2⟩
          · rw [Nat.zero_add] at h1
            obtain ⟨hk', hev⟩ := putO_ok hS (o := .mp es') (ob := .map (C.modify j fun e => { e with key := u, val := c }) clk) hm hid hb (map_shape hb) (by intro C T f; simp)
              (.inr (.inr ⟨by simp [AObj.tag], rfl, rfl⟩)) (fun he hx => ⟨bl, _, clk, rfl, hx, by rw [Array.toList_modify]; exact h4.mono fun v a => he.keepS⟩)
            refine ⟨_, rfl, ?_, hev, hk'⟩
            unfold Instr.mapUpdate
            simp only [Sem.run_bind, run_underlying hu, Result.andThen_ok, getObj, Sem.run, hb, checkKey_now hk hd]
            simp [Sem.run_bind, checkKey_now hk hd, hfk _ h1]
            have hC : C[j]? = some e := by simpa using h2
            have hks : (Instr.keyThatStays u u).run P S.w = .ok u S.w := by
              unfold Instr.keyThatStays
              rw [if_pos (sameBits_now hk)]; rfl
            rw [hC]
            simp only [Option.map_some, Option.getD_some, h3, hks, Result.andThen_ok]
            simp [setObj, Sem.run, World.putObj, hb]
          · obtain ⟨hk', hev⟩ := putO_ok hS (o := .mp es') (ob := .map (C.push { key := u, val := c, born := clk }) (clk + 1)) hm hid hb (map_shape hb) (by intro C T f; simp)
              (.inr (.inr ⟨by simp [AObj.tag], rfl, rfl⟩)) (fun he hx => ⟨bl, _, _, rfl, hx, by rw [Array.toList_push]; exact (h2 clk).mono fun v a => he.keepS⟩)
            refine ⟨_, rfl, ?_, hev, hk'⟩
            unfold Instr.mapUpdate
            simp only [Sem.run_bind, run_underlying hu, Result.andThen_ok, getObj, Sem.run, hb, checkKey_now hk hd]
            simp [Sem.run_bind, checkKey_now hk hd, hfk _ h1]
            simp [setObj, Sem.run, World.putObj, hb]
        · exact trivial
      · exact trivial
    · exact trivial
  · exact trivial
theorem typeAssert_ok {S : Mem} (hS : HOk P M0 S) {T A : TypeId} {ok : Bool} {v : Value} {x : AV} (hx : Rep M0 S v x) : ValOk P M0 S (Instr.typeAssert v T A ok) (aTypeAssert P A ok x S.h) := by
  unfold aTypeAssert
  split
  · rename_i t q hA
    split
    · rename_i ht
      subst ht
      have h1 : RepP (Avoid M0 S.m) S.w v (.iface t q) := hx
      cases h1 with
      | @iface _ v' _ h2 =>
        unfold isIfaceT at hA
        split at hA
        · cases hA
        · rename_i d hd hu
          refine ⟨S, if ok then .tuple #[v', .bool true] else v', rfl, ?_, Ev.refl _ _, hS, ?_⟩
          · unfold Instr.typeAssert
            simp only [Sem.run_bind, run_underlying hu, Result.andThen_ok]
            cases d <;> first | (cases ok <;> simp; done) | exact absurd rfl (hd _)
          · cases ok
            · exact rep0_of_pv h2
            · refine rep0_of_pv (RepP.tuple rfl fun i c hi => ?_)
              match i, hi with
              | 0, hi => cases hi; exact h2
              | 1, hi => cases hi; exact .bool _
        · cases hA
    · exact trivial
  · exact trivial
end Abs
end Go.Proofs.YtbojkcmohgbpaaaGreatDoor
