/-
  LAWS: one operation of a region, in the abstract machine and in the model's.
  LAWS: a code, in the abstract machine and in the model's. What is known of regions of any order is handed in.
-/
import Derived.Test.YtbojkcmohgbpaaaGreatDoorAbsWp
namespace Go.Proofs.YtbojkcmohgbpaaaGreatDoor
namespace Abs
variable {P : Program} {M0 : Nat → Prop} {S0 : Mem} {b : Frame} {cs0 : List Frame} {m : List (Option Nat)} {A : AAct} {a : Act} {w : World}
theorem undef_rep (M0 : Nat → Prop) (S : Mem) : Rep M0 S undef (.p (.tuple [])) := rep0_of_pv (.tuple rfl (by simp))
theorem Rel.eval (h : Rel P M0 S0 b cs0 m A a w) (x : Operand) : Rep M0 ⟨m, A.h, w⟩ (a.eval x) (A.eval x) := by
  cases x with
  | tmp t => exact h.tmps t
  | const v =>
    show Rep M0 _ v (match constPV v with | some x => .p x | none => .undef)
    cases hc : constPV v with
    | none => exact trivial
    | some q => exact rep0_of_pv (constPV_rep hc)
  | global g => exact trivial
  | func f => exact rep0_of_pv (.func rfl rfl (by simp) (by simp))
theorem Ev.len {base : Nat} {S S' : Mem} (e : Ev base S S') (hb : base ≤ S.h.length) : base ≤ S'.h.length := by
  rcases Nat.eq_zero_or_pos base with h | h
  · omega
  · have hlt : base - 1 < S.h.length := by omega
    obtain ⟨o', ho', _⟩ := e.obj (base - 1) _ (by omega) (List.getElem?_eq_getElem hlt)
    have := (List.getElem?_eq_some_iff.1 ho').1
    omega
theorem Ev.rc {S S' : Mem} (e : Ev S.h.length S S') {c : Rc} (h : RcRep M0 S b cs0 c) : RcRep M0 S' b cs0 c := by
  cases c with
  | pend v =>
    obtain ⟨h1, h2, v', cs1, h3, h4⟩ := h
    exact ⟨h1, h2, v', cs1, h3, e.repP h4⟩
  | _ => exact h
theorem Ev.repL {S S' : Mem} (e : Ev S.h.length S S') {C : Array Value} {l : List AV} (h : RepL (Rep M0 S) C l) : RepL (Rep M0 S') C l := h.imp fun _ _ _ hr => e.keep hr
theorem Ev.mode {S S' : Mem} (e : Ev S.h.length S S') {um : FrameMode} {u : AMode} (h : ModeRep M0 S um u) : ModeRep M0 S' um u := by
  cases u with
  | pan v =>
    obtain ⟨v', h1, h2⟩ := h
    exact ⟨v', h1, e.repP h2⟩
  | _ => exact h
theorem Ev.defRep {S S' : Mem} (e : Ev S.h.length S S') {d : Deferred} {x : ADef} (h : DefRep P M0 S d x) : DefRep P M0 S' d x := by
  cases x with
  | fn g args =>
    obtain ⟨fv, cap, dargs, cargs, h1, h2, h3⟩ := h
    exact ⟨fv, cap, dargs, cargs, h1, h2, e.repL h3⟩
  | collected id =>
    obtain ⟨bl, h1, h2⟩ := h
    refine ⟨bl, h1, ?_⟩
    rcases h2 with h2 | ⟨h2, h3⟩
    · obtain ⟨o', ho', he⟩ := e.obj id _ (List.getElem?_eq_some_iff.1 h2).1 h2
      rcases he with rfl | ⟨_, _, _, he, _⟩ | ⟨he, _⟩
      · exact .inl ho'
      · cases he
      · exact absurd rfl he
    · obtain ⟨o', ho', he⟩ := e.obj id _ (List.getElem?_eq_some_iff.1 h2).1 h2
      rcases he with rfl | ⟨_, _, _, he, _⟩ | ⟨_, he, he'⟩
      · exact .inl ho'
      · cases he
      · refine .inr ⟨?_, he'.trans h3⟩
        cases o' <;> first | exact ho' | cases he
theorem Ev.defsRep {S S' : Mem} (e : Ev S.h.length S S') : ∀ {ds : List Deferred} {xs : List ADef}, DefsRep P M0 S ds xs → DefsRep P M0 S' ds xs
  | [], [], _ => trivial
  | _ :: _, _ :: _, h => ⟨e.defRep h.1, e.defsRep h.2⟩
  | [], _ :: _, h => h.elim
  | _ :: _, [], h => h.elim
theorem Rel.ahead (h : Rel P M0 S0 b cs0 m A a w) {m' : List (Option Nat)} {h' : Heap} {w' : World} (e : Ev A.h.length ⟨m, A.h, w⟩ ⟨m', h', w'⟩) (hk : HOk P M0 ⟨m', h', w'⟩) :
    Rel P M0 S0 b cs0 m' { A with h := h' } a w' where
  size := h.size
  tmps := fun t => e.keep (h.tmps t)
  hok := hk
  ev := h.ev.trans (e.mono h.le.1)
  le := ⟨Nat.le_trans h.le.1 (e.len (Nat.le_refl _)), h.le.2⟩
  df := e.defsRep h.df
  rc := e.rc h.rc
theorem Rel.put (h : Rel P M0 S0 b cs0 m A a w) {dst : Option Tmp} {v : AV} {v' : Value} (hd : ∀ d, dst = some d → d < A.n) (hv : Rep M0 ⟨m, A.h, w⟩ v' v) :
    Rel P M0 S0 b cs0 m (A.put dst v A.h) (a.put dst v') w := by
  cases dst with
  | none => exact h
  | some d =>
    have hlt := hd d rfl
    exact
      { size := by simpa [AAct.put, Act.put] using h.size
        tmps := fun t => by
          show Rep M0 ⟨m, A.h, w⟩ ((a.tmps.setIfInBounds d v').getD t undef) (if t = d then v else A.tmps t)
          by_cases htd : t = d
          · subst htd
            have : t < a.tmps.size := by rw [h.size]; exact hlt
            simpa [this] using hv
          · simp only [htd, if_false]
            have := h.tmps t
            simpa [Array.getElem?_setIfInBounds_ne (Ne.symm htd)] using this
        hok := h.hok
        ev := h.ev
        le := h.le
        df := h.df
        rc := h.rc }
theorem put_heap (A : AAct) (dst : Option Tmp) (v : AV) (h : Heap) : A.put dst v h = { A with h := h }.put dst v h := by cases dst <;> rfl
theorem put_n (A : AAct) (dst : Option Tmp) (v : AV) (h : Heap) : (A.put dst v h).n = A.n := by cases dst <;> rfl
theorem put_rc (A : AAct) (dst : Option Tmp) (v : AV) (h : Heap) : (A.put dst v h).rc = A.rc := by cases dst <;> rfl
theorem put_h (A : AAct) (dst : Option Tmp) (v : AV) (h : Heap) : (A.put dst v h).h = h := by cases dst <;> rfl
theorem dst_lt {n : Nat} {o : Oper} (h : dstOk n o = true) : ∀ d, o.dst = some d → d < n := by
  intro d hd
  simp only [dstOk, hd] at h
  exact of_decide_eq_true h
def Steps1 (P : Program) (M0 : Nat → Prop) (S0 : Mem) (b : Frame) (cs0 : List Frame) (n : Nat) (mc : Machine) (k : List Item) (K : AAct → Prop) (Q : Ex → AAct → Prop) : Prop :=
  (∃ A' m' a' w', K A' ∧ A'.n = n ∧ Rel P M0 S0 b cs0 m' A' a' w' ∧ Steps P mc (lone (b.atR a' k) (csAt A'.rc cs0) w')) ∨
  (∃ v A' m' a' w' v' todo, Q (.panic v) A' ∧ A'.n = n ∧ Rel P M0 S0 b cs0 m' A' a' w' ∧ RepP (Avoid M0 m') w' v' v ∧
    Steps P mc (lone { b.atR a' todo with mode := .panicking [{ v := v', recovered := false }] } (csAt A'.rc cs0) w'))
theorem recoverD_recovered {cs : List Frame} {v : Value} {cs1 : List Frame} (h : recoverD cs = some (v, cs1)) : recoverD cs1 = none := by
  unfold recoverD at h
  split at h
  · split at h
    · cases h; rfl
    · cases h
  · cases h
theorem Rel.semAt (h : Rel P M0 S0 b cs0 m A a w) {o : Oper} (hn : (∀ c, o.op ≠ .defer c) ∨ A.rc ≠ .rnd) : o.semAt b.roundOf a.eval = execOp a.eval o := by
  rcases hn with hn | hn
  · exact Oper.semAt_eq _ _ _ hn
  · have : b.roundOf = none := by
      have := h.rc
      cases hr : A.rc <;> rw [hr] at this hn
      · exact this
      · exact absurd rfl hn
      · exact this.1
      · exact this.1
      · exact this.1
    rw [this]; rfl
theorem rc_kind (h : Rel P M0 S0 b cs0 m A a w) : A.rc = .no ∨ A.rc = .rnd ∨ (b.roundOf = none ∧ b.kind = .deferred) := by
  have := h.rc
  cases hr : A.rc <;> rw [hr] at this
  · exact .inl rfl
  · exact .inr (.inl rfl)
  · exact .inr (.inr ⟨this.1, this.2.1⟩)
  · exact .inr (.inr ⟨this.1, this.2.1⟩)
  · exact .inr (.inr ⟨this.1, this.2.1⟩)
theorem op_step {H : Hints} {o : Oper} {i : Nat} {rest : List Nat} {ops : Array Oper} {k : List Item} {K : AAct → Prop} {Q : Ex → AAct → Prop}
    (ho : ops[i]? = some o) (hd : dstOk A.n o = true) (hw : Region.wanted o (yielded ops a.tmps) = true) (hr : Rel P M0 S0 b cs0 m A a w)
    (h : orK P A o.dst K Q (aOp P (mutOf H) o A.eval A.h)) :
    Steps1 P M0 S0 b cs0 A.n (lone (b.atR a (.inRegion ops (i :: rest) :: k)) (csAt A.rc cs0) w) (.inRegion ops rest :: k) K Q := by
  have hok := op_ok (P := P) (mu := mutOf H) (o := o) hr.hok hr.eval
  have hfin : ∀ (a' : Act) v, (b.atR a' (.inRegion ops (i :: rest) :: k)).finish v = b.atR (a'.put o.dst v) (.inRegion ops rest :: k) := by
    intro a' v; rw [Frame.finish_atR, ho]; rfl
  have hg := stepGR_op (P := P) (b := b) (k := k) (cs := csAt A.rc cs0) (w := w) (rest := rest) ho hw
  -- a deferred call is laid down in no round
  have hdef : ∀ c, o.op = .defer c → (∃ d, aOp P (mutOf H) o A.eval A.h = .dfr d) ∨ aOp P (mutOf H) o A.eval A.h = .stuck := by
    intro c hc
    unfold aOp
    rw [hc]
    dsimp only
    split
    · unfold aDefer
      split
      · exact .inl ⟨_, rfl⟩
      · exact .inr rfl
    · exact .inr rfl
  generalize haop : aOp P (mutOf H) o A.eval A.h = r at h hok hdef
  have hnd : (∀ d, r ≠ .dfr d) → r ≠ .stuck → o.semAt b.roundOf a.eval = execOp a.eval o := by
    intro h1 h2
    refine hr.semAt (.inl fun c hc => ?_)
    rcases hdef c hc with ⟨d, hd⟩ | hs
    · exact h1 d hd
    · exact h2 hs
  cases r with
  | val v h' =>
    obtain ⟨⟨m', h1, w'⟩, v', rfl, hrun, hev, hhk, hrep⟩ := hok
    rw [hnd (by simp) (by simp)] at hg
    have hr' := (hr.ahead hev hhk).put (dst := o.dst) (dst_lt hd) hrep
    rw [← put_heap] at hr'
    refine .inl ⟨_, m', _, w', h, put_n _ _ _ _, hr', ?_⟩
    rw [put_rc, ← hfin]
    exact .one (step_lone_go (by rw [hg]; simp only at hrun; simp [stepG.apply, hrun]))
  | skip h' =>
    obtain ⟨⟨m', h1, w'⟩, rfl, hrun, hev, hhk⟩ := hok
    rw [hnd (by simp) (by simp)] at hg
    have hr' := (hr.ahead hev hhk).put (dst := o.dst) (dst_lt hd) (undef_rep _ _)
    rw [← put_heap] at hr'
    refine .inl ⟨_, m', _, w', h, put_n _ _ _ _, hr', ?_⟩
    rw [put_rc, ← hfin]
    exact .one (step_lone_go (by rw [hg]; simp [stepG.apply, hrun]))
  | call f args =>
    obtain ⟨cargs, hrun, hargs⟩ := hok
    rw [hnd (by simp) (by simp)] at hg
    obtain ⟨henter, hcall⟩ := h M0 m w cargs hr.hok hargs
    have hrun' : (execOp a.eval o).run P w = .ok (.enter f cargs) w := hrun.trans (henter w)
    obtain ⟨e, w', fr, ⟨re, h', m', hR, hev, hhk, hend⟩, hcomes, _, hleave⟩ := hcall (b.atR a (.inRegion ops (i :: rest) :: k) :: csAt A.rc cs0)
    have hstart : step P (lone (b.atR a (.inRegion ops (i :: rest) :: k)) (csAt A.rc cs0) w) =
        .next (lone (Frame.enter P f cargs .normal) (b.atR a (.inRegion ops (i :: rest) :: k) :: csAt A.rc cs0) w) :=
      step_lone_go (by rw [hg]; simp [stepG.apply, hrun', Frame.atR])
    cases e with
    | outgrown => exact hend.elim
    | returned v' =>
      cases re with
      | panic v => exact hend.elim
      | ret v =>
        have hr' := (hr.ahead hev hhk).put (dst := o.dst) (dst_lt hd) hend
        rw [← put_heap] at hr'
        refine .inl ⟨_, m', _, w', hR, put_n _ _ _ _, hr', ?_⟩
        rw [put_rc, ← hfin]
        exact .head hstart (Steps.trans hcomes (.one (step_leave_returned hleave)))
    | panicked ch =>
      cases re with
      | ret v => exact hend.elim
      | panic v =>
        obtain ⟨v', rfl, hv⟩ := hend
        refine .inr ⟨v, _, m', a, w', v', .inRegion ops (i :: rest) :: k, hR, rfl, hr.ahead hev hhk, hv, ?_⟩
        rw [← Frame.raise_atR]
        exact .head hstart (Steps.trans hcomes (.one (step_leave_panicked hleave)))
  | yld l args =>
    obtain ⟨bl, cargs, hrun, hargs, hlive⟩ := hok
    rw [hnd (by simp) (by simp)] at hg
    obtain ⟨⟨ob, hob, htag⟩, hyld⟩ := h
    have hbl : m.getD l none = some bl := by
      rcases hlive with hdead | hbl
      · have hdead' : A.h[l]? = some .dead := hdead
        rw [hob] at hdead'; cases hdead'; cases htag
      · exact hbl
    obtain ⟨f, tmps, assign, body, hy, hround⟩ := hyld M0 m w cargs bl hr.hok hargs hbl
    have hrun' : (execOp a.eval o).run P w = .ok (.round bl f tmps assign body) w := hrun.trans hy
    obtain ⟨e, w', ⟨re, h', m', hR, hev, hhk, hend⟩, hsteps⟩ := hround (b.atR a (.inRegion ops (i :: rest) :: k)) (csAt A.rc cs0)
    have hstart : step P (lone (b.atR a (.inRegion ops (i :: rest) :: k)) (csAt A.rc cs0) w) =
        .next (lone (Frame.round bl f tmps assign body .normal) (b.atR a (.inRegion ops (i :: rest) :: k) :: csAt A.rc cs0) w) :=
      step_lone_go (by rw [hg]; simp [stepG.apply, hrun', Frame.atR])
    cases e with
    | outgrown => exact hend.elim
    | returned v' =>
      cases re with
      | panic v => exact hend.elim
      | ret v =>
        have hr' := (hr.ahead hev hhk).put (dst := o.dst) (dst_lt hd) hend
        rw [← put_heap] at hr'
        refine .inl ⟨_, m', _, w', hR, put_n _ _ _ _, hr', ?_⟩
        rw [put_rc, ← hfin]
        exact .head hstart hsteps
    | panicked ch =>
      cases re with
      | ret v => exact hend.elim
      | panic v =>
        obtain ⟨v', rfl, hv⟩ := hend
        refine .inr ⟨v, _, m', a, w', v', .inRegion ops (i :: rest) :: k, hR, rfl, hr.ahead hev hhk, hv, ?_⟩
        rw [← Frame.raise_atR]
        exact .head hstart hsteps
  | dfr d =>
    have hnr : A.rc ≠ .rnd := by intro hc; simp only [orK, hc, dfrK] at h
    have h' : K ({ A with df := d :: A.df }.put o.dst (.p (.tuple [])) A.h) := by
      simp only [orK] at h
      cases hc : A.rc <;> rw [hc] at h <;> first | exact h | exact absurd hc hnr
    rw [hr.semAt (.inr hnr)] at hg
    cases d with
    | collected id => exact hok.elim
    | fn g args =>
      obtain ⟨fv, cap, dargs, cargs, hrun, hinv, hargs⟩ := hok
      have hr1 : Rel P M0 S0 b cs0 m { A with df := .fn g args :: A.df } { a with defers := { target := .fn fv cap, args := dargs } :: a.defers } w :=
        ⟨hr.size, hr.tmps, hr.hok, hr.ev, hr.le, ⟨⟨fv, cap, dargs, cargs, rfl, hinv, hargs⟩, hr.df⟩, hr.rc⟩
      refine .inl ⟨_, m, _, w, h', put_n _ _ _ _, hr1.put (dst := o.dst) (dst_lt hd) (undef_rep _ _), ?_⟩
      rw [put_rc, ← hfin]
      exact .one (step_lone_go (by
        rw [hg]
        have hrun' : (execOp a.eval o).run P w = _ := hrun
        simp [stepG.apply, hrun', Frame.atR]))
  | recover =>
    rw [hnd (by simp) (by simp)] at hg
    have hrun : (execOp a.eval o).run P w = .ok .recover w := hok
    have hnil : Rep M0 ⟨m, A.h, w⟩ .nilIface (.p .niliface) := rep0_of_pv .niliface
    have hkd := rc_kind hr
    have hrc := hr.rc
    -- nothing to take up
    have quiet : b.roundOf = none → b.kind = .deferred → recoverD (csAt A.rc cs0) = none → K (A.put o.dst (.p .niliface) A.h) →
        Steps1 P M0 S0 b cs0 A.n (lone (b.atR a (.inRegion ops (i :: rest) :: k)) (csAt A.rc cs0) w) (.inRegion ops rest :: k) K Q := by
      intro h1 h2 h3 hK
      refine .inl ⟨_, m, _, w, hK, put_n _ _ _ _, hr.put (dst := o.dst) (dst_lt hd) hnil, ?_⟩
      rw [put_rc, ← hfin]
      refine .one (step_lone_go ?_)
      have htr := tryRecover_deferred (fr := b.atR a (.inRegion ops (i :: rest) :: k)) h2 (csAt A.rc cs0)
      rw [h3] at htr
      have hro : (b.atR a (.inRegion ops (i :: rest) :: k)).roundOf = none := h1
      rw [hg]
      simp [stepG.apply, hrun, htr, hro]
    simp only [orK] at h
    cases hc : A.rc with
    | no => rw [hc] at h; exact h.elim
    | rnd => rw [hc] at h; exact h.elim
    | none =>
      rw [hc] at h hrc
      rw [hc] at quiet
      exact quiet hrc.1 hrc.2.1 hrc.2.2 h
    | got v =>
      rw [hc] at h hrc
      rw [hc] at quiet
      obtain ⟨h1, h2, v', cs1, h3⟩ := hrc
      refine quiet h1 h2 ?_ h
      simp only [csAt, h3]
      exact recoverD_recovered h3
    | pend v =>
      rw [hc] at h hrc
      obtain ⟨h1, h2, v', cs1, h3, h4⟩ := hrc
      have hr1 : Rel P M0 S0 b cs0 m { A with rc := .got v } a w := ⟨hr.size, hr.tmps, hr.hok, hr.ev, hr.le, hr.df, ⟨h1, h2, v', cs1, h3⟩⟩
      refine .inl ⟨_, m, _, w, h, put_n _ _ _ _, hr1.put (dst := o.dst) (dst_lt hd) (rep0_of_pv h4), ?_⟩
      rw [put_rc, ← hfin]
      refine .one (step_lone_go ?_)
      have htr := tryRecover_deferred (fr := b.atR a (.inRegion ops (i :: rest) :: k)) h2 cs0
      rw [h3] at htr
      have hro : (b.atR a (.inRegion ops (i :: rest) :: k)).roundOf = none := h1
      rw [hc] at hg
      simp only [csAt] at hg
      rw [show csAt (Rc.pend v) cs0 = cs0 from rfl, hg]
      simp [stepG.apply, hrun, htr, hro, csAt, h3]
  | panic v =>
    obtain ⟨v', hrun, hv⟩ := hok
    rw [hnd (by simp) (by simp)] at hg
    refine .inr ⟨v, A, m, a, w, v', .inRegion ops (i :: rest) :: k, h, rfl, hr, hv, ?_⟩
    rw [← Frame.raise_atR]
    exact .one (step_lone_go (by rw [hg]; simp [stepG.apply, hrun]))
  | stuck => exact h.elim
end Abs
end Go.Proofs.YtbojkcmohgbpaaaGreatDoor
namespace Go.Proofs.YtbojkcmohgbpaaaGreatDoor
namespace Abs
variable {P : Program} {M0 : Nat → Prop} {S0 : Mem} {b : Frame} {cs0 : List Frame} {m : List (Option Nat)} {A : AAct} {a : Act} {w : World} {H : Hints}
def Arr (P : Program) (M : Nat → Prop) (mc : Machine) (b : Frame) (k : List Item) (cs : List Frame) (a : Act) (w : World) : Ex → Prop
  | .normal => Steps P mc (lone (b.atR a k) cs w)
  | .exit id => (∀ k', exitTo id k = some k' → Steps P mc (lone (b.atR a k') cs w)) ∧
      (exitTo id k = none → ∃ k₁, exitTo id k₁ = none ∧ Steps P mc (lone (b.atR a (.code (.exit id) :: k₁)) cs w))
  | .ret => ∃ k₁, Steps P mc (lone (b.atR a (.code .ret :: k₁)) cs w)
  | .panic v => ∃ v' todo, RepP M w v' v ∧ Steps P mc (lone { b.atR a todo with mode := .panicking [{ v := v', recovered := false }] } cs w)
def Sim (P : Program) (M0 : Nat → Prop) (S0 : Mem) (b : Frame) (cs0 : List Frame) (n : Nat) (mc : Machine) (k : List Item) (Q : Ex → AAct → Prop) : Prop :=
  ∃ e A' m' a' w', Q e A' ∧ A'.n = n ∧ Rel P M0 S0 b cs0 m' A' a' w' ∧ Arr P (Avoid M0 m') mc b k (csAt A'.rc cs0) a' w' e
theorem Arr.of_steps {M : Nat → Prop} {mc mc' : Machine} {k : List Item} {cs : List Frame} {e : Ex} (h : Steps P mc mc') (h' : Arr P M mc' b k cs a w e) : Arr P M mc b k cs a w e := by
  cases e with
  | normal => exact Steps.trans h h'
  | exit id => exact ⟨fun k' hk => h.trans (h'.1 k' hk), fun hk => let ⟨k₁, h1, h2⟩ := h'.2 hk; ⟨k₁, h1, h.trans h2⟩⟩
  | ret => exact let ⟨k₁, h1⟩ := h'; ⟨k₁, h.trans h1⟩
  | panic v => exact let ⟨v', todo, h1, h2⟩ := h'; ⟨v', todo, h1, h.trans h2⟩
theorem Sim.of_steps {n : Nat} {mc mc' : Machine} {k : List Item} {Q : Ex → AAct → Prop} (h : Steps P mc mc') (h' : Sim P M0 S0 b cs0 n mc' k Q) : Sim P M0 S0 b cs0 n mc k Q :=
  let ⟨e, A', m', a', w', h1, h2, h3, h4⟩ := h'; ⟨e, A', m', a', w', h1, h2, h3, h4.of_steps h⟩
theorem Arr.pass {M : Nat → Prop} {mc : Machine} {x : Item} {k : List Item} {cs : List Frame} {e : Ex} (hx : x.plain = true) (he : e ≠ .normal) (h : Arr P M mc b (x :: k) cs a w e) : Arr P M mc b k cs a w e := by
  have hxt : ∀ id, exitTo id (x :: k) = exitTo id k := by intro id; cases x <;> simp_all [exitTo, Item.plain]
  cases e with
  | normal => exact absurd rfl he
  | exit id => exact ⟨fun k' hk => h.1 k' (by rw [hxt]; exact hk), fun hk => h.2 (by rw [hxt]; exact hk)⟩
  | ret => exact h
  | panic v => exact h
theorem wanted_false {ops : Array Oper} {o : Oper} {i : Nat} (ho : ops[i]? = some o) (hw : Region.wanted o (yielded ops a.tmps) = false) :
    ((ops[i]?).map (Region.wanted · (yielded ops a.tmps))).getD false = false := by simp [ho, hw]
theorem Rel.wanted (h : Rel P M0 S0 b cs0 m A a w) {ops : Array Oper} {o : Oper} {t : Bool} (hw : aWanted ops A o = some t) : Region.wanted o (yielded ops a.tmps) = t := by
  unfold aWanted at hw
  unfold Region.wanted
  cases hg : o.guard with
  | none => rw [hg] at hw; cases hw; rfl
  | some g =>
    obtain ⟨j, want⟩ := g
    rw [hg] at hw
    simp only at hw ⊢
    unfold yielded
    unfold guardAt at hw
    cases hd : (ops[j]?).bind (·.dst) with
    | none => rw [hd] at hw; cases hw; rfl
    | some d =>
      rw [hd] at hw
      simp only at hw
      have ht := h.tmps d
      simp only [Option.bind_some]
      split at hw
      · rename_i bb hbb
        rw [hbb] at ht
        have := bool_rep ht
        cases hw
        rw [Array.getD_eq_getD_getElem?] at this
        cases hq : a.tmps[d]? with
        | none => rw [hq] at this; cases this
        | some z =>
          rw [hq] at this
          simp only [Option.getD_some] at this
          subst this
          cases bb <;> cases want <;> rfl
      · rename_i l hbb
        rw [hbb] at ht
        have h1 : RepP (Avoid M0 m) w (a.tmps.getD d undef) (.tuple l) := ht
        cases hw
        rw [Array.getD_eq_getD_getElem?] at h1
        cases hq : a.tmps[d]? with
        | none => rfl
        | some z =>
          rw [hq] at h1
          simp only [Option.getD_some] at h1
          cases h1
          rfl
      · cases hw
theorem ops_sim {ops : Array Oper} {Q : Ex → AAct → Prop} {n : Nat} {k : List Item} (hd : ops.toList.all (dstOk n) = true) : ∀ (l : List Oper) (i : Nat), ops.toList.drop i = l →
    ∀ {m A a w}, Rel P M0 S0 b cs0 m A a w → A.n = n → wpOps P H ops Q l A →
      Sim P M0 S0 b cs0 n (lone (b.atR a (.inRegion ops ((List.range ops.size).drop i) :: k)) (csAt A.rc cs0) w) k Q := by
  intro l
  induction l with
  | nil =>
    intro i hi m A a w hr hn h
    have hlen : ops.size ≤ i := by
      have := congrArg List.length hi
      simp at this
      omega
    have : (List.range ops.size).drop i = [] := by simp [hlen]
    rw [this]
    exact ⟨.normal, A, m, a, w, h, hn, hr, .one stepR_region_end⟩
  | cons o rest ih =>
    intro i hi m A a w hr hn h
    have hlt : i < ops.size := by
      have := congrArg List.length hi
      simp at this
      omega
    have hoi : ops[i]? = some o := by
      have h1 : ops.toList[i]? = some o := by
        have := List.getElem?_drop (xs := ops.toList) (i := i) (j := 0)
        rw [hi] at this
        simpa using this.symm
      simpa using h1
    have hdrop : (List.range ops.size).drop i = i :: (List.range ops.size).drop (i + 1) := by
      rw [List.drop_eq_getElem_cons (by simpa using hlt)]
      simp
    have hnext : ops.toList.drop (i + 1) = rest := by
      have := congrArg List.tail hi
      simpa [List.tail_drop] using this
    have hdo : dstOk A.n o = true := by
      rw [hn]
      exact List.all_eq_true.1 hd o (by have := List.mem_of_getElem? (l := ops.toList) (i := i) (a := o) (by simpa using hoi); exact this)
    rw [hdrop]
    unfold wpOps at h
    cases hw : aWanted ops A o with
    | none => rw [hw] at h; exact h.elim
    | some t =>
      rw [hw] at h
      have hwm := hr.wanted hw
      cases t with
      | true =>
        have h1 := h.1 rfl
        rcases op_step (i := i) (rest := (List.range ops.size).drop (i + 1)) (k := k) hoi hdo hwm hr h1 with ⟨A', m', a', w', hK, hn', hr', hs⟩ | ⟨v, A', m', a', w', v', todo, hQ, hn', hr', hv, hs⟩
        · exact (ih (i + 1) hnext hr' (hn'.trans hn) hK).of_steps hs
        · exact ⟨.panic v, A', m', a', w', hQ, hn'.trans hn, hr', v', todo, hv, hs⟩
      | false =>
        have h1 := h.2 rfl
        have hs := stepR_op_skip (P := P) (b := b) (k := k) (cs := csAt A.rc cs0) (w := w) (rest := (List.range ops.size).drop (i + 1)) (wanted_false hoi hwm)
        simp only [hoi, Option.bind_some] at hs
        have hr' := hr.put (dst := o.dst) (dst_lt hdo) (undef_rep _ _)
        have := ih (i + 1) hnext hr' ((put_n _ _ _ _).trans hn) h1
        rw [put_rc] at this
        exact this.of_steps (.one hs)
def DrawLaw (P : Program) : Prop :=
  ∀ {M0 : Nat → Prop} {S0 : Mem} {b : Frame} {cs0 : List Frame} {m : List (Option Nat)} {A : AAct} {a : Act} {w : World} {H : Hints} {ops : Array Oper} {Q : Ex → AAct → Prop} {n id : Nat} {k : List Item},
    ops.toList.all (dstOk n) = true → drawOk H ops = true → Rel P M0 S0 b cs0 m A a w → A.n = n → wpDraw P H ops Q ops.toList (drawHs H ops.toList A) (drawA H ops.toList A) →
      Sim P M0 S0 b cs0 n (lone (b.atR a (.code (.region id ops true) :: k)) (csAt A.rc cs0) w) k Q
theorem set_dead_ok {S : Mem} (hS : HOk P M0 S) (id : Nat) {w' : World} (hw : Fr S.m S.w w') (hb : ∀ x bl, x ≠ id → S.m.getD x none = some bl → w'.heap[bl]? = S.w.heap[bl]?) :
    HOk P M0 ⟨S.m, S.h.set id .dead, w'⟩ ∧ Ev S.h.length S ⟨S.m, S.h.set id .dead, w'⟩ := by
  have hev : Ev S.h.length S ⟨S.m, S.h.set id .dead, w'⟩ :=
    { fr := hw
      sub := fun bl h => .inl h
      obj := fun x o hx ho => by
        by_cases hxi : x = id
        · subst hxi
          exact ⟨.dead, by simp [hx], .inl rfl⟩
        · exact ⟨o, by simp [List.getElem?_set_ne (Ne.symm hxi), ho], ObjEv.refl _ _⟩ }
  refine ⟨?_, hev⟩
  exact
    { len := by simpa using hS.len
      lt := fun bl h => Nat.lt_of_lt_of_le (hS.lt bl h) hw.size
      m0 := fun bl h => ⟨Nat.lt_of_lt_of_le (hS.m0 bl h).1 hw.size, (hS.m0 bl h).2⟩
      inj := hS.inj
      obj := fun x o ho => by
        by_cases hxi : x = id
        · subst hxi
          have ho' : (S.h.set x .dead)[x]? = some o := ho
          have hx : x < S.h.length := by
            have := (List.getElem?_eq_some_iff.1 ho').1
            simpa using this
          rw [List.getElem?_set_self hx] at ho'
          cases ho'
          exact trivial
        · have ho' : (S.h.set id .dead)[x]? = some o := ho
          rw [List.getElem?_set_ne (Ne.symm hxi)] at ho'
          exact (hS.obj x o ho').keep hev fun bl hbl => hb x bl hxi hbl
      gl := hev.glob hS.gl }
end Abs
end Go.Proofs.YtbojkcmohgbpaaaGreatDoor
