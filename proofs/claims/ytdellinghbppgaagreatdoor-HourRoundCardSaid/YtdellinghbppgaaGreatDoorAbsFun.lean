/-
  LAWS: functions: what is known of a call, out of what its body comes to.
  LAWS: functions: what is known of a call, out of what its body comes to.
-/
import Derived.Test.YtdellinghbppgaaGreatDoorAbsMain
import Derived.RangeFuncLeaves
namespace Go.Proofs.YtdellinghbppgaaGreatDoor
namespace Abs
variable {P : Program} {M0 : Nat → Prop}

/-! ### results -/
def LdOk (P : Program) (M0 : Nat → Prop) (S : Mem) (T : TypeId) (v : Value) : OR → Prop
  | .val y _ => ∃ ad v', v = .pointer (some ad) ∧ (loadVar T ad).run P S.w = .ok v' S.w ∧ Rep M0 S v' y
  | .stuck => True
  | _ => False
theorem LdOk.opt {S : Mem} {T : TypeId} {ad : Addr} {v : Option AV} (h : ∀ x, v = some x → ∃ v', (loadVar T ad).run P S.w = .ok v' S.w ∧ Rep M0 S v' x) : LdOk P M0 S T (.pointer (some ad)) (optVal S.h v) := by
  cases v with
  | none => exact trivial
  | some x => obtain ⟨v', h1, h2⟩ := h x rfl; exact ⟨ad, v', rfl, h1, h2⟩
theorem load_run {S : Mem} (hS : HOk P M0 S) {T : TypeId} {x : AV} {v : Value} (hx : Rep M0 S v x) : LdOk P M0 S T v (aLoad P T x S.h) := by
  unfold aLoad
  split
  · rename_i sz xs i o
    split
    · rename_i y hy
      have h : RepP (Avoid M0 S.m) S.w v (.ptr sz xs i o) := hx
      cases h with
      | ptr f hat hsz hM hc hr =>
        rename_i b off at_
        refine LdOk.opt fun z hz => ?_
        have hi := (List.getElem?_eq_some_iff.1 hy).1
        have hsy := hsz y (List.mem_of_getElem? hy)
        have hrep : CellsRep M0 S (fun j => f (i * sz + j)) (y.cells.map .p) := by
          intro j c hj
          simp only [List.getElem?_map, Option.map_eq_some_iff] at hj
          obtain ⟨q, hq, rfl⟩ := hj
          exact ⟨hsy.2 q (List.mem_of_getElem? hq), hr i j y q hy hq⟩
        have hlen : (y.cells.map AV.p).length = sz := by simpa using hsy.1
        exact run_part (P := P) (fun j => f (i * sz + j)) (b := b) (at_ := at_) (pv_cells hsy) hrep (fun j hj => by
          rw [← hc (i * sz + (o + j)) (idx_lt hi (by omega)), hat]
          simp only [Nat.add_assoc]) hz
    · exact trivial
  · rename_i id ver i o
    split
    · rename_i sz xs hid
      split
      · rename_i hv
        split
        · rename_i y hy
          obtain ⟨b, hm, rfl⟩ := live_row hx.2 hid hv
          refine LdOk.opt fun z hz => ?_
          obtain ⟨C, T', hb, hsize, hel⟩ := row_block hS hid hm
          obtain ⟨cs, h5, h6, h7⟩ := hel i y hy
          have hi := (List.getElem?_eq_some_iff.1 hy).1
          exact run_part (P := P) (fun j => C.getD (i * sz + j) undef) (b := b) (at_ := i * sz + o) h5 h7 (fun j hj => by
            rw [Nat.add_assoc]
            exact cell_block hb _ (Nat.lt_of_lt_of_le (idx_lt hi (by omega)) hsize)) hz
        · exact trivial
      · exact trivial
    · exact trivial
  · exact trivial

def AV.single : AV → Bool
  | .tuple _ => false
  | _ => true
def aRes1 (P : Program) (h : Heap) (tmps : Nat → AV) : ResultVar → Option AV
  | .tmp t => some (tmps t)
  | .cell a T => match aLoad P T (tmps a) h with | .val v _ => some v | _ => none
def aRes (P : Program) (h : Heap) (tmps : Nat → AV) : List ResultVar → Option (List AV)
  | [] => some []
  | r :: rs => match aRes1 P h tmps r, aRes P h tmps rs with | some v, some l => if v.single = true then some (v :: l) else none | _, _ => none
def aResult : Option (List AV) → Option AV
  | some [v] => some v
  | some l => some (mkTuple l)
  | none => none

theorem repA_of_single {S : Mem} {v : Value} {x : AV} (hx : x.single = true) (h : Rep M0 S v x) : RepA M0 S v x := by
  cases x <;> first | exact h | cases hx

def resF (tmps : Array Value) : ResultVar → Sem Value
  | .tmp t => pure (tmps.getD t undef)
  | .cell a t => do loadVar t (← asAddr (tmps.getD a undef))
theorem results_eq (fn : Func) (tmps : Array Value) : results fn tmps = (fn.results.mapM (resF tmps) >>= fun vs => pure (if h : vs.size = 1 then vs[0] else .tuple vs)) := by
  unfold results
  refine congrArg (· >>= _) (congrArg (fun g => Array.mapM g fn.results) ?_)
  funext r
  cases r <;> rfl
theorem aRes_run {S : Mem} (hS : HOk P M0 S) {tmps : Array Value} {T : Nat → AV} (ht : ∀ t, Rep M0 S (tmps.getD t undef) (T t)) : ∀ (rs : List ResultVar) (l : List AV), aRes P S.h T rs = some l →
    ∃ vs : List Value, (rs.mapM (resF tmps)).run P S.w = .ok vs S.w ∧ vs.length = l.length ∧ ∀ (i : Nat) (c : AV), l[i]? = some c → Rep M0 S (vs.getD i undef) c ∧ c.single = true
  | [], l, h => by
    cases h
    exact ⟨[], by simp, rfl, by simp⟩
  | r :: rs, l, h => by
    unfold aRes at h
    split at h
    · rename_i v l' h1 h2
      split at h
      · rename_i hs
        cases h
        obtain ⟨vs, h3, h4, h5⟩ := aRes_run hS ht rs l' h2
        have hv : ∃ v', (resF tmps r).run P S.w = .ok v' S.w ∧ Rep M0 S v' v := by
          cases r with
          | tmp t => cases h1; exact ⟨_, by simp [resF], ht t⟩
          | cell a t =>
            unfold aRes1 at h1
            dsimp only at h1
            have hl := load_run (P := P) (T := t) hS (ht a)
            split at h1
            · rename_i y hh hy
              cases h1
              rw [hy] at hl
              obtain ⟨ad, v', e1, e2, e3⟩ := hl
              exact ⟨v', by simp [resF, e1, asAddr, e2], e3⟩
            · cases h1
        obtain ⟨v', h6, h7⟩ := hv
        refine ⟨v' :: vs, ?_, by simp [h4], fun i c hi => ?_⟩
        · rw [List.mapM_cons]
          simp only [Sem.run_bind, h6, Result.andThen, h3]
          simp
        · cases i with
          | zero => cases hi; exact ⟨h7, hs⟩
          | succ i => exact h5 i c hi
      · cases h
    · cases h

theorem results_run {S : Mem} (hS : HOk P M0 S) {fn : Func} {tmps : Array Value} {T : Nat → AV} (ht : ∀ t, Rep M0 S (tmps.getD t undef) (T t)) {v : AV} (h : aResult (aRes P S.h T fn.results.toList) = some v) :
    ∃ v', (results fn tmps).run P S.w = .ok v' S.w ∧ Rep M0 S v' v := by
  cases hl : aRes P S.h T fn.results.toList with
  | none => rw [hl] at h; cases h
  | some l =>
    rw [hl] at h
    obtain ⟨vs, h1, h2, h3⟩ := aRes_run hS ht _ _ hl
    have hrun : (results fn tmps).run P S.w = .ok (if h : vs.toArray.size = 1 then vs.toArray[0] else .tuple vs.toArray) S.w := by
      rw [results_eq, Array.mapM_eq_mapM_toList]
      simp only [map_eq_pure_bind, Sem.run_bind, Sem.run_pure, Result.andThen, h1]
    refine ⟨_, hrun, ?_⟩
    by_cases h4 : l.length = 1
    · obtain ⟨y, rfl⟩ := List.length_eq_one_iff.1 h4
      have h5 : vs.length = 1 := h2
      obtain ⟨u, rfl⟩ := List.length_eq_one_iff.1 h5
      cases h
      simpa using (h3 0 _ rfl).1
    · have h5 : ¬ vs.toArray.size = 1 := by simp; omega
      have h6 : v = mkTuple l := by
        cases l with
        | nil => cases h; rfl
        | cons y l => cases l with
          | nil => exact absurd rfl h4
          | cons z l => cases h; rfl
      rw [dif_neg h5, h6]
      refine mkTuple_rep ⟨by simp [h2], fun i c hi => ?_⟩
      have := h3 i c hi
      refine repA_of_single this.2 ?_
      simpa [Array.getD_eq_getD_getElem?, List.getD_eq_getElem?_getD] using this.1

end Abs
end Go.Proofs.YtdellinghbppgaaGreatDoor

namespace Go.Proofs.YtdellinghbppgaaGreatDoor
namespace Abs
variable {P : Program} {M0 : Nat → Prop}

/-- an activation is left -/
def aLeave (P : Program) (rs : List ResultVar) (R : AEnd → Heap → Prop) (tmps : Nat → AV) : List ADef → AMode → Heap → Prop
  | [], .ret, h => match aResult (aRes P h tmps rs) with | some v => R (.ret v) h | none => False
  | [], .pan v, h => R (.panic v) h
  | [], .recd _, _ => False
  | .fn f args :: ds, u, h => DCall P f args u h fun r u' h' => match r with
      | .ret _ => aLeave P rs R tmps ds (aSettle u') h'
      | .panic v => u' = .ret ∧ aLeave P rs R tmps ds (.pan v) h'
  | .collected id :: ds, u, h => (h[id]? = some .dblock) ∧ aLeave P rs R tmps ds u (h.set id .dead)

theorem mode_ne_run {S : Mem} {um : FrameMode} {u : AMode} (h : ModeRep M0 S um u) : um ≠ .run := by
  cases u with
  | ret => rw [show um = _ from h]; simp
  | pan v => obtain ⟨v', rfl, _⟩ := h; simp
  | recd v => obtain ⟨v', rfl⟩ := h; simp

theorem leave_sim {fn : Func} {R : AEnd → Heap → Prop} {T : Nat → AV} : ∀ (ds : List ADef) (u : AMode) (S : Mem) (fr : Frame) (cs : List Frame), HOk P M0 S →
    (∀ t, Rep M0 S (fr.tmps.getD t undef) (T t)) → ModeRep M0 S fr.mode u → DefsRep P M0 S fr.defers ds → P.funcs[fr.fn]? = some fn → aLeave P fn.results.toList R T ds u S.h →
    ∃ e w' fr', Behind P M0 S R e w' ∧ Steps P (lone fr cs S.w) (lone fr' cs w') ∧ fr'.fn = fr.fn ∧ fr'.kind = fr.kind ∧ e ≠ .outgrown ∧ fr'.going P w' e := by
  intro ds
  induction ds with
  | nil =>
    intro u S fr cs hS ht hm hd hf h
    have hd' : fr.defers = [] := by
      cases hdd : fr.defers with
      | nil => rfl
      | cons d l => rw [hdd] at hd; exact hd.elim
    cases u with
    | ret =>
      unfold aLeave at h
      cases hres : aResult (aRes P S.h T fn.results.toList) with
      | none => rw [hres] at h; exact h.elim
      | some v =>
        rw [hres] at h
        obtain ⟨v', h1, h2⟩ := results_run (P := P) hS (fn := fn) ht hres
        exact ⟨.returned v', S.w, fr, ⟨.ret v, S.h, S.m, h, Ev.refl _ _, hS, h2⟩, .refl P _, rfl, rfl, by simp, hm, hd', fn, hf, h1⟩
    | pan v =>
      obtain ⟨v', h1, h2⟩ := hm
      exact ⟨.panicked [{ v := v', recovered := false }], S.w, fr, ⟨.panic v, S.h, S.m, h, Ev.refl _ _, hS, v', rfl, h2⟩, .refl P _, rfl, rfl, by simp, h1, hd', fn, hf⟩
    | recd v => exact h.elim
  | cons d ds ih =>
    intro u S fr cs hS ht hm hd hf h
    cases hdd : fr.defers with
    | nil => rw [hdd] at hd; exact hd.elim
    | cons d' ds' =>
      rw [hdd] at hd
      have hne := mode_ne_run hm
      -- what follows from a later state
      have next : ∀ (u1 : AMode) (S1 : Mem) (um1 : FrameMode), Ev S.h.length S S1 → HOk P M0 S1 → ModeRep M0 S1 um1 u1 → aLeave P fn.results.toList R T ds u1 S1.h →
          Steps P (lone fr cs S.w) (lone { { fr with defers := ds' } with mode := um1 } cs S1.w) →
          ∃ e w' fr', Behind P M0 S R e w' ∧ Steps P (lone fr cs S.w) (lone fr' cs w') ∧ fr'.fn = fr.fn ∧ fr'.kind = fr.kind ∧ e ≠ .outgrown ∧ fr'.going P w' e := by
        intro u1 S1 um1 hev hk hm1 hl hs
        obtain ⟨e, w', fr', ⟨r, h', m', hR, hev', hk', hend⟩, hs', h1, h2, h3, h4⟩ := ih u1 S1 { { fr with defers := ds' } with mode := um1 } cs hk (fun t => hev.keep (ht t)) hm1 (hev.defsRep hd.2) hf hl
        exact ⟨e, w', fr', ⟨r, h', m', hR, hev.trans (hev'.mono (hev.len (Nat.le_refl _))), hk', hend⟩, hs.trans hs', h1, h2, h3, h4⟩
      cases d with
      | fn g args =>
        obtain ⟨⟨fv, cap, dargs, cargs, rfl, hinv, hargs⟩, hds⟩ := hd
        obtain ⟨henter, hcall⟩ := h M0 S.m S.w cargs fr.mode hS hargs hm
        have h1 := step_defer (P := P) (fr := fr) (cs := cs) (w := S.w) hne hdd rfl ((hinv S.w).trans (henter S.w))
        obtain ⟨e, um', w', frX, ⟨r, u', h', m', hR, hev, hk, hend, hmode⟩, hcomes, hkX, hgo⟩ := hcall { fr with defers := ds' } cs rfl
        cases e with
        | outgrown => exact hend.elim
        | returned v' =>
          cases r with
          | panic v => exact hend.elim
          | ret v =>
            have h2 := step_going_returned (c := { { fr with defers := ds' } with mode := um' }) (cs := cs) hkX hgo
            have hset : ModeRep M0 ⟨m', h', w'⟩ (settle um') (aSettle u') := by
              cases u' with
              | ret => rw [show um' = _ from hmode]; rfl
              | pan v2 =>
                obtain ⟨v3, rfl, h3⟩ := hmode
                exact ⟨v3, by simp [settle], h3⟩
              | recd v2 =>
                obtain ⟨v3, rfl⟩ := hmode
                show settle _ = _
                simp [settle]
            exact next (aSettle u') ⟨m', h', w'⟩ (settle um') hev hk hset hR (.head h1 (Steps.trans hcomes (.one h2)))
        | panicked ch =>
          cases r with
          | ret v => exact hend.elim
          | panic v =>
            obtain ⟨v', rfl, hv⟩ := hend
            obtain ⟨rfl, hR⟩ := hR
            have h2 := step_going_panicked (c := { { fr with defers := ds' } with mode := um' }) (cs := cs) hgo
            have hmode' : um' = .returning := hmode
            subst hmode'
            exact next (.pan v) ⟨m', h', w'⟩ (.panicking [{ v := v', recovered := false }]) hev hk ⟨v', rfl, hv⟩ hR (.head h1 (Steps.trans hcomes (.one h2)))
      | collected id =>
        obtain ⟨⟨bl, rfl, hdb⟩, hds⟩ := hd
        obtain ⟨hob, hl⟩ := h
        have hbl : S.m.getD id none = some bl := by
          rcases hdb with hdead | ⟨_, hbl⟩
          · rw [hob] at hdead; cases hdead
          · exact hbl
        obtain ⟨bl', hbl', hx⟩ := hS.obj id _ hob
        rw [hbl] at hbl'; cases hbl'
        have htake := run_takeDeferred (P := P) (w := S.w) hx
        have h1 := step_collected (P := P) (fr := fr) (cs := cs) hne hdd rfl htake
        obtain ⟨hk1, hev1⟩ := putO_ok hS (o := .dead) (ob := .deferred none) hbl hob hx (deferred_shape hx) (by simp) (.inl rfl) (fun _ _ => trivial)
        refine next u ⟨S.m, S.h.set id .dead, S.w.putObj bl (.deferred none)⟩ fr.mode hev1 hk1 (hev1.mode hm) hl (.one ?_)
        simpa using h1

/-! ### a function's activation -/
def argT (l : List AV) (t : Nat) : AV := match l[t]? with | some v => v | none => .p (.tuple [])
def start (n : Nat) (rc : Rc) (args : List AV) (h : Heap) : AAct := { n := n, bs := h.length, rc := rc, tmps := argT args, h := h, df := [] }
/-- the end of a body -/
def finK (P : Program) (rs : List ResultVar) (R : AEnd → Heap → Prop) : Ex → AAct → Prop
  | .normal, A => aLeave P rs R A.tmps A.df .ret A.h
  | .ret, A => aLeave P rs R A.tmps A.df .ret A.h
  | .panic v, A => aLeave P rs R A.tmps A.df (.pan v) A.h
  | .exit _, _ => False

theorem start_rel {h : Heap} {m : List (Option Nat)} {w : World} {args : List AV} {cargs : Array Value} {n : Nat} {rc : Rc} {b : Frame} {cs0 : List Frame} (hS : HOk P M0 ⟨m, h, w⟩) (ha : RepL (Rep M0 ⟨m, h, w⟩) cargs args) (hn : args.length ≤ n)
    (hrc : RcRep M0 ⟨m, h, w⟩ b cs0 rc) (hfn : ∃ f, P.funcs[b.fn]? = some f) : Rel P M0 ⟨m, h, w⟩ b cs0 m (start n rc args h) { tmps := cargs ++ Array.replicate (n - cargs.size) undef, defers := [] } w where
  size := by have := ha.1; simp [start]; omega
  tmps := fun t => by
    show Rep M0 _ _ (argT args t)
    unfold argT
    have hsz := ha.1
    split
    · rename_i v hv
      have hlt := (List.getElem?_eq_some_iff.1 hv).1
      have h1 := ha.2 t v hv
      rw [Array.getD_eq_getD_getElem?, Array.getElem?_append_left (by omega)]
      rwa [Array.getD_eq_getD_getElem?] at h1
    · rename_i hv
      have hge : args.length ≤ t := by simpa using hv
      have : (cargs ++ Array.replicate (n - cargs.size) undef).getD t undef = undef := by
        rw [Array.getD_eq_getD_getElem?, Array.getElem?_append_right (by omega)]
        cases hq : (Array.replicate (n - cargs.size) undef)[t - cargs.size]? with
        | none => rfl
        | some z =>
          rw [Array.getElem?_replicate] at hq
          split at hq <;> simp_all
      rw [this]
      exact undef_rep _ _
  hok := hS
  ev := Ev.refl _ _
  le := ⟨Nat.le_refl _, hfn⟩
  df := trivial
  rc := hrc

/-- the machine's way through a body, and out of it -/
theorem body_sim (hD : DrawLaw P) {H : Hints} {fn : Func} {c : Code} {S : Mem} {b : Frame} {cs0 : List Frame} {A : AAct} {a : Act} {R : Rc → AEnd → Heap → Prop} (hok : okCode H A.n c = true) (hr : Rel P M0 S b cs0 S.m A a S.w)
    (hbs : A.bs = S.h.length) (hf : P.funcs[b.fn]? = some fn) (hro : b.roundOf = none) (h : wp P H c (fun e B => B.bs = A.bs ∧ finK P fn.results.toList (R B.rc) e B) A) :
    ∃ e w' fr' rc', Behind P M0 S (R rc') e w' ∧ Steps P (lone (b.atR a [.code c]) (csAt A.rc cs0) S.w) (lone fr' (csAt rc' cs0) w') ∧ fr'.fn = b.fn ∧ fr'.kind = b.kind ∧ e ≠ .outgrown ∧ fr'.going P w' e ∧
      ∃ S' : Mem, RcRep M0 S' b cs0 rc' := by
  obtain ⟨e, A1, m1, a1, w1, ⟨hbs1, hq⟩, hn1, hr1, harr⟩ := wp_sim hD c (k := []) hok hr rfl h
  have hev : Ev S.h.length S ⟨m1, A1.h, w1⟩ := by have := hr1.ev; rwa [hbs1, hbs] at this
  have out : ∀ (um : FrameMode) (u : AMode) (todo : List Item), ModeRep M0 ⟨m1, A1.h, w1⟩ um u → aLeave P fn.results.toList (R A1.rc) A1.tmps A1.df u A1.h →
      Steps P (lone (b.atR a [.code c]) (csAt A.rc cs0) S.w) (lone { b.atR a1 todo with mode := um } (csAt A1.rc cs0) w1) →
      ∃ e w' fr' rc', Behind P M0 S (R rc') e w' ∧ Steps P (lone (b.atR a [.code c]) (csAt A.rc cs0) S.w) (lone fr' (csAt rc' cs0) w') ∧ fr'.fn = b.fn ∧ fr'.kind = b.kind ∧ e ≠ .outgrown ∧ fr'.going P w' e ∧
        ∃ S' : Mem, RcRep M0 S' b cs0 rc' := by
    intro um u todo hm hl hs
    obtain ⟨e, w', fr', ⟨r, h', m', hR, hev', hk', hend⟩, hs', h1, h2, h3, h4⟩ := leave_sim A1.df u ⟨m1, A1.h, w1⟩ { b.atR a1 todo with mode := um } (csAt A1.rc cs0) hr1.hok hr1.tmps hm hr1.df hf hl
    exact ⟨e, w', fr', A1.rc, ⟨r, h', m', hR, hev.trans (hev'.mono (hev.len (Nat.le_refl _))), hk', hend⟩, hs.trans hs', h1, h2, h3, h4, ⟨m1, A1.h, w1⟩, hr1.rc⟩
  cases e with
  | normal => exact out .returning .ret [] rfl hq (Steps.trans harr (.one (stepR_end hro)))
  | ret =>
    obtain ⟨k₁, hs⟩ := harr
    exact out .returning .ret _ rfl hq (Steps.trans hs (.one (stepR_ret hro)))
  | exit id => exact hq.elim
  | panic v =>
    obtain ⟨v', todo, hv, hs⟩ := harr
    exact out (.panicking [{ v := v', recovered := false }]) (.pan v) todo ⟨v', rfl, hv⟩ hq hs

/-- the end of a body, as it is asked for -/
def endQ (P : Program) (rs : List ResultVar) (n : Nat) (R : Rc → AEnd → Heap → Prop) : Ex → AAct → Prop := fun e B => B.bs = n ∧ finK P rs (R B.rc) e B

/-- what is looked at ahead of a function -/
def fnOk (H : Hints) (fn : Func) : Bool :=
  match fn.body with
  | some c => okCode H fn.ntmps c && fn.name != "runtime.NumGoroutine"
  | none => false

theorem enter_run {f : FuncId} {fn : Func} {H : Hints} (hf : P.funcs[f]? = some fn) (hok : fnOk H fn = true) (cargs : Array Value) (w : World) : (callFunc f cargs).run P w = .ok (.enter f cargs) w := by
  unfold fnOk at hok
  split at hok
  · rename_i c hb
    simp only [Bool.and_eq_true, bne_iff_ne] at hok
    simp [callFunc, program, Sem.run, Result.andThen, hf, hb, hok.2]
  · cases hok

theorem enter_at {f : FuncId} {fn : Func} {c : Code} {cargs : Array Value} {kind : CallKind} (hf : P.funcs[f]? = some fn) (hb : fn.body = some c) :
    Frame.enter P f cargs kind = ({ (default : Frame) with fn := f, kind := kind }).atR { tmps := cargs ++ Array.replicate (fn.ntmps - cargs.size) undef, defers := [] } [.code c] := by
  simp [Frame.enter, Frame.atR, hf, hb]
  rfl

theorem going_leaving {fr : Frame} {w : World} {e : Ending} (hk : fr.kind = .normal) (h : fr.going P w e) : fr.leaving P w e := by
  cases e with
  | returned v => exact ⟨h.1, h.2.1, hk, h.2.2⟩
  | panicked ch => exact h
  | outgrown => exact h

/-- A CALL, OUT OF THE BODY -/
theorem hcall_of_wp (hD : DrawLaw P) {H : Hints} {f : FuncId} {fn : Func} {c : Code} {args : List AV} {h : Heap} {R : AEnd → Heap → Prop} {rs : List ResultVar} {n : Nat} (hf : P.funcs[f]? = some fn) (hb : fn.body = some c) (hrs : fn.results.toList = rs) (hn : fn.ntmps = n) (hok : fnOk H fn = true)
    (hlen : args.length ≤ n) (hw : wp P H c (endQ P rs h.length (fun _ => R)) (start n .no args h)) : HCall P f args h R := by
  subst hrs hn
  intro M0 m w cargs hS ha
  refine ⟨enter_run hf hok cargs, fun cs => ?_⟩
  have hokc : okCode H fn.ntmps c = true := by
    unfold fnOk at hok
    rw [hb] at hok
    simp only [Bool.and_eq_true] at hok
    exact hok.1
  obtain ⟨e, w', fr', rc', hB, hs, h1, h2, h3, h4, _⟩ := body_sim hD (S := ⟨m, h, w⟩) (b := { (default : Frame) with fn := f, kind := .normal }) (cs0 := cs) (R := fun _ => R) hokc
    (start_rel (rc := .no) hS ha hlen rfl ⟨_, hf⟩) rfl hf rfl hw
  rw [enter_at hf hb]
  have hcs : csAt rc' cs = cs := by
    rename_i hx
    obtain ⟨S', hx⟩ := hx
    cases rc' with
    | got v => exact absurd hx.2.1 (by simp)
    | _ => rfl
  rw [hcs] at hs
  refine ⟨e, w', fr', hB, ?_, h1, going_leaving h2 h4⟩
  cases e with
  | outgrown => exact absurd rfl h3
  | returned v => exact hs
  | panicked ch => exact hs

def rcOf : AMode → Rc
  | .pan v => .pend v
  | _ => .none
def modeOf (u : AMode) : Rc → AMode
  | .got _ => match u with | .pan v => .recd v | u => u
  | _ => u

theorem recoverD_of_mode {S : Mem} {c : Frame} {cs : List Frame} {u : AMode} (h : ModeRep M0 S c.mode u) :
    match u with
    | .pan v => ∃ v', RepP (Avoid M0 S.m) S.w v' v ∧ recoverD (c :: cs) = some (v', { c with mode := .panicking [{ v := v', recovered := true }] } :: cs)
    | _ => recoverD (c :: cs) = none := by
  cases u with
  | ret => have h' : c.mode = .returning := h; simp [recoverD, h']
  | pan v =>
    obtain ⟨v', h1, h2⟩ := h
    exact ⟨v', h2, by simp [recoverD, h1]⟩
  | recd v =>
    obtain ⟨v', h1⟩ := h
    simp [recoverD, h1]

/-- A DEFERRED CALL, OUT OF THE BODY -/
theorem dcall_of_wp (hD : DrawLaw P) {H : Hints} {f : FuncId} {fn : Func} {c : Code} {args : List AV} {u : AMode} {h : Heap} {R : AEnd → AMode → Heap → Prop} {rs : List ResultVar} {n : Nat} (hf : P.funcs[f]? = some fn) (hb : fn.body = some c) (hrs : fn.results.toList = rs) (hn : fn.ntmps = n) (hok : fnOk H fn = true)
    (hlen : args.length ≤ n) (hw : wp P H c (endQ P rs h.length (fun rc r h' => R r (modeOf u rc) h')) (start n (rcOf u) args h)) : DCall P f args u h R := by
  subst hrs hn
  intro M0 m w cargs um hS ha hm
  refine ⟨enter_run hf hok cargs, fun c0 cs hc0 => ?_⟩
  have hokc : okCode H fn.ntmps c = true := by
    unfold fnOk at hok
    rw [hb] at hok
    simp only [Bool.and_eq_true] at hok
    exact hok.1
  subst hc0
  have hrec := recoverD_of_mode (cs := cs) hm
  have hrc : RcRep M0 ⟨m, h, w⟩ ({ (default : Frame) with fn := f, kind := .deferred }) (c0 :: cs) (rcOf u) := by
    cases u with
    | ret => exact ⟨rfl, rfl, hrec⟩
    | recd v => exact ⟨rfl, rfl, hrec⟩
    | pan v =>
      obtain ⟨v', h1, h2⟩ := hrec
      exact ⟨rfl, rfl, v', _, h2, h1⟩
  obtain ⟨e, w', fr', rc', ⟨r, h', m', hR, hev, hk, hend⟩, hs, h1, h2, h3, h4, S', hx⟩ := body_sim hD (S := ⟨m, h, w⟩) (b := { (default : Frame) with fn := f, kind := .deferred }) (cs0 := c0 :: cs) (R := fun rc r h' => R r (modeOf u rc) h') hokc
    (start_rel (rc := rcOf u) hS ha hlen hrc ⟨_, hf⟩) rfl hf rfl hw
  rw [enter_at hf hb]
  have hcs0 : csAt (start fn.ntmps (rcOf u) args h).rc (c0 :: cs) = c0 :: cs := by cases u <;> rfl
  rw [hcs0] at hs
  -- the frame below, behind the call
  have hbelow : ∃ um' : FrameMode, csAt rc' (c0 :: cs) = { c0 with mode := um' } :: cs ∧ ModeRep M0 ⟨m', h', w'⟩ um' (modeOf u rc') := by
    have same : csAt rc' (c0 :: cs) = c0 :: cs → modeOf u rc' = u → ∃ um' : FrameMode, csAt rc' (c0 :: cs) = { c0 with mode := um' } :: cs ∧ ModeRep M0 ⟨m', h', w'⟩ um' (modeOf u rc') := by
      intro e1 e2
      exact ⟨c0.mode, by rw [e1], by rw [e2]; exact hev.mode hm⟩
    cases rc' with
    | got v =>
      obtain ⟨_, _, v', cs1, h5⟩ := hx
      cases u with
      | ret => rw [hrec] at h5; cases h5
      | recd v2 => rw [hrec] at h5; cases h5
      | pan v2 =>
        obtain ⟨v3, h6, h7⟩ := hrec
        exact ⟨.panicking [{ v := v3, recovered := true }], by simp only [csAt, h7], v3, rfl⟩
    | _ => exact same rfl rfl
  obtain ⟨um', h5, h6⟩ := hbelow
  rw [h5] at hs
  refine ⟨e, um', w', fr', ⟨r, _, h', m', hR, hev, hk, hend, h6⟩, ?_, h2, h4⟩
  cases e with
  | outgrown => exact absurd rfl h3
  | returned v => exact hs
  | panicked ch => exact hs

/-! ### a round of a loop over a function -/
def putParams (tmps : Nat → AV) : List Tmp → List AV → Nat → AV
  | p :: ps, x :: xs => putParams (upd tmps p x) ps xs
  | _, _ => tmps
def paramsOk (n : Nat) (ps : Array Tmp) : Bool := ps.toList.all fun p => decide (p < n)
/-- how a round ends -/
def roundQ (n : Nat) (tmps : Nat → AV) (ps : Array Tmp) (assign body : Code) (l bs : Nat) (R : AEnd → Heap → Prop) : Ex → AAct → Prop
  | .normal, A => A.bs = bs ∧ (∃ st pend, A.h[l]? = some (.loop n tmps ps assign body st pend)) ∧ R (.ret (.p (.bool true))) (A.h.set l (.loop n tmps ps assign body .ready none))
  | .exit id, A => A.bs = bs ∧ (∃ st pend, A.h[l]? = some (.loop n tmps ps assign body st pend)) ∧ R (.ret (.p (.bool false))) (A.h.set l (.loop n tmps ps assign body .done (some (.exit id))))
  | .ret, A => A.bs = bs ∧ (∃ st pend, A.h[l]? = some (.loop n tmps ps assign body st pend)) ∧ R (.ret (.p (.bool false))) (A.h.set l (.loop n tmps ps assign body .done (some .ret)))
  | .panic v, A => A.bs = bs ∧ A.df = [] ∧ R (.panic v) A.h
def assignQ (n : Nat) (tmps : Nat → AV) (ps : Array Tmp) (assign body : Code) (l bs : Nat) (K : AAct → Prop) : Ex → AAct → Prop
  | .normal, A => A.bs = bs ∧ A.h[l]? = some (.loop n tmps ps assign body .ready none) ∧ K { A with h := A.h.set l (.loop n tmps ps assign body .busy none) }
  | _, _ => False

end Abs
end Go.Proofs.YtdellinghbppgaaGreatDoor
