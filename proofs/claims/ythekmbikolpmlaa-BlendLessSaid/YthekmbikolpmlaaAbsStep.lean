/-
  LAWS: one operation of a region, in the abstract machine and in the model's.
-/
import Derived.Test.YthekmbikolpmlaaAbsWp
namespace Go.Proofs.Ythekmbikolpmlaa
namespace Abs
variable {P : Program} {M0 : Nat → Prop} {S0 : Mem} {b : Frame} {cs0 : List Frame} {m : List (Option Nat)} {A : AAct} {a : Act} {w : World}

theorem undef_rep (M0 : Nat → Prop) (S : Mem) : Rep M0 S undef (.p (.tuple [])) := rep0_of_pv (.tuple rfl (by simp))

theorem Rel.eval (h : Rel P M0 S0 b cs0 m A a w) (x : Operand) : Rep M0 ⟨m, A.h, w⟩ (a.eval x) (A.eval x) := by
  cases x with
  | tmp t => exact h.tmps t
  | const v =>
    show Rep M0 _ v (match constPV v with | some x => .p x | none => .undef)
    cases hc : constPV v with
    | none => exact trivial
    | some q => exact rep0_of_pv (constPV_rep hc)
  | global g => exact trivial
  | func f => exact rep0_of_pv (.func rfl rfl (by simp) (by simp))

theorem Ev.len {base : Nat} {S S' : Mem} (e : Ev base S S') (hb : base ≤ S.h.length) : base ≤ S'.h.length := by
  rcases Nat.eq_zero_or_pos base with h | h
  · omega
  · have hlt : base - 1 < S.h.length := by omega
    obtain ⟨o', ho', _⟩ := e.obj (base - 1) _ (by omega) (List.getElem?_eq_getElem hlt)
    have := (List.getElem?_eq_some_iff.1 ho').1
    omega

theorem Ev.rc {S S' : Mem} (e : Ev S.h.length S S') {c : Rc} (h : RcRep M0 S b cs0 c) : RcRep M0 S' b cs0 c := by
  cases c with
  | pend v =>
    obtain ⟨h1, h2, v', cs1, h3, h4⟩ := h
    exact ⟨h1, h2, v', cs1, h3, e.repP h4⟩
  | _ => exact h
theorem Ev.repL {S S' : Mem} (e : Ev S.h.length S S') {C : Array Value} {l : List AV} (h : RepL (Rep M0 S) C l) : RepL (Rep M0 S') C l := h.imp fun _ _ _ hr => e.keep hr
theorem Ev.mode {S S' : Mem} (e : Ev S.h.length S S') {um : FrameMode} {u : AMode} (h : ModeRep M0 S um u) : ModeRep M0 S' um u := by
  cases u with
  | pan v =>
    obtain ⟨v', h1, h2⟩ := h
    exact ⟨v', h1, e.repP h2⟩
  | _ => exact h
theorem Ev.defRep {S S' : Mem} (e : Ev S.h.length S S') {d : Deferred} {x : ADef} (h : DefRep P M0 S d x) : DefRep P M0 S' d x := by
  cases x with
  | fn g args =>
    obtain ⟨fv, cap, dargs, cargs, h1, h2, h3⟩ := h
    exact ⟨fv, cap, dargs, cargs, h1, h2, e.repL h3⟩
  | collected id =>
    obtain ⟨bl, h1, h2⟩ := h
    refine ⟨bl, h1, ?_⟩
    rcases h2 with h2 | ⟨h2, h3⟩
    · obtain ⟨o', ho', he⟩ := e.obj id _ (List.getElem?_eq_some_iff.1 h2).1 h2
      rcases he with rfl | ⟨_, _, _, he, _⟩ | ⟨he, _⟩
      · exact .inl ho'
      · cases he
      · exact absurd rfl he
    · obtain ⟨o', ho', he⟩ := e.obj id _ (List.getElem?_eq_some_iff.1 h2).1 h2
      rcases he with rfl | ⟨_, _, _, he, _⟩ | ⟨_, he, he'⟩
      · exact .inl ho'
      · cases he
      · refine .inr ⟨?_, he'.trans h3⟩
        cases o' <;> first | exact ho' | cases he
theorem Ev.defsRep {S S' : Mem} (e : Ev S.h.length S S') : ∀ {ds : List Deferred} {xs : List ADef}, DefsRep P M0 S ds xs → DefsRep P M0 S' ds xs
  | [], [], _ => trivial
  | _ :: _, _ :: _, h => ⟨e.defRep h.1, e.defsRep h.2⟩
  | [], _ :: _, h => h.elim
  | _ :: _, [], h => h.elim

/-- memory behind the state's own -/
theorem Rel.ahead (h : Rel P M0 S0 b cs0 m A a w) {m' : List (Option Nat)} {h' : Heap} {w' : World} (e : Ev A.h.length ⟨m, A.h, w⟩ ⟨m', h', w'⟩) (hk : HOk M0 ⟨m', h', w'⟩) :
    Rel P M0 S0 b cs0 m' { A with h := h' } a w' where
  size := h.size
  tmps := fun t => e.keep (h.tmps t)
  hok := hk
  ev := h.ev.trans (e.mono h.le)
  le := Nat.le_trans h.le (e.len (Nat.le_refl _))
  df := e.defsRep h.df
  rc := e.rc h.rc

/-- a temporary is filled -/
theorem Rel.put (h : Rel P M0 S0 b cs0 m A a w) {dst : Option Tmp} {v : AV} {v' : Value} (hd : ∀ d, dst = some d → d < A.n) (hv : Rep M0 ⟨m, A.h, w⟩ v' v) :
    Rel P M0 S0 b cs0 m (A.put dst v A.h) (a.put dst v') w := by
  cases dst with
  | none => exact h
  | some d =>
    have hlt := hd d rfl
    exact
      { size := by simpa [AAct.put, Act.put] using h.size
        tmps := fun t => by
          show Rep M0 ⟨m, A.h, w⟩ ((a.tmps.setIfInBounds d v').getD t undef) (if t = d then v else A.tmps t)
          by_cases htd : t = d
          · subst htd
            have : t < a.tmps.size := by rw [h.size]; exact hlt
            simpa [this] using hv
          · simp only [htd, if_false]
            have := h.tmps t
            simpa [Array.getElem?_setIfInBounds_ne (Ne.symm htd)] using this
        hok := h.hok
        ev := h.ev
        le := h.le
        df := h.df
        rc := h.rc }
theorem put_heap (A : AAct) (dst : Option Tmp) (v : AV) (h : Heap) : A.put dst v h = { A with h := h }.put dst v h := by cases dst <;> rfl
theorem put_n (A : AAct) (dst : Option Tmp) (v : AV) (h : Heap) : (A.put dst v h).n = A.n := by cases dst <;> rfl
theorem put_rc (A : AAct) (dst : Option Tmp) (v : AV) (h : Heap) : (A.put dst v h).rc = A.rc := by cases dst <;> rfl
theorem put_h (A : AAct) (dst : Option Tmp) (v : AV) (h : Heap) : (A.put dst v h).h = h := by cases dst <;> rfl
theorem put_df (A : AAct) (dst : Option Tmp) (v : AV) (h : Heap) : (A.put dst v h).df = A.df := by cases dst <;> rfl
theorem put_bs (A : AAct) (dst : Option Tmp) (v : AV) (h : Heap) : (A.put dst v h).bs = A.bs := by cases dst <;> rfl
theorem dst_lt {n : Nat} {o : Oper} (h : dstOk n o = true) : ∀ d, o.dst = some d → d < n := by
  intro d hd
  simp only [dstOk, hd] at h
  exact of_decide_eq_true h

/-- where an operation leads -/
def Steps1 (P : Program) (M0 : Nat → Prop) (S0 : Mem) (b : Frame) (cs0 : List Frame) (n : Nat) (mc : Machine) (k : List Item) (K : AAct → Prop) (Q : Ex → AAct → Prop) : Prop :=
  (∃ A' m' a' w', K A' ∧ A'.n = n ∧ Rel P M0 S0 b cs0 m' A' a' w' ∧ Steps P mc (lone (b.atR a' k) (csAt A'.rc cs0) w')) ∨
  (∃ v A' m' a' w' v' todo, Q (.panic v) A' ∧ A'.n = n ∧ Rel P M0 S0 b cs0 m' A' a' w' ∧ RepP (Avoid M0 m') w' v' v ∧
    Steps P mc (lone { b.atR a' todo with mode := .panicking [{ v := v', recovered := false }] } (csAt A'.rc cs0) w'))

theorem recoverD_recovered {cs : List Frame} {v : Value} {cs1 : List Frame} (h : recoverD cs = some (v, cs1)) : recoverD cs1 = none := by
  unfold recoverD at h
  split at h
  · split at h
    · cases h; rfl
    · cases h
  · cases h

theorem Rel.semAt (h : Rel P M0 S0 b cs0 m A a w) {o : Oper} (hn : (∀ c, o.op ≠ .defer c) ∨ A.rc ≠ .rnd) : o.semAt b.roundOf a.eval = execOp a.eval o := by
  rcases hn with hn | hn
  · exact Oper.semAt_eq _ _ _ hn
  · have : b.roundOf = none := by
      have := h.rc
      cases hr : A.rc <;> rw [hr] at this hn
      · exact this
      · exact absurd rfl hn
      · exact this.1
      · exact this.1
      · exact this.1
    rw [this]; rfl

theorem rc_kind (h : Rel P M0 S0 b cs0 m A a w) : A.rc = .no ∨ A.rc = .rnd ∨ (b.roundOf = none ∧ b.kind = .deferred) := by
  have := h.rc
  cases hr : A.rc <;> rw [hr] at this
  · exact .inl rfl
  · exact .inr (.inl rfl)
  · exact .inr (.inr ⟨this.1, this.2.1⟩)
  · exact .inr (.inr ⟨this.1, this.2.1⟩)
  · exact .inr (.inr ⟨this.1, this.2.1⟩)

theorem op_step {H : Hints} {o : Oper} {i : Nat} {rest : List Nat} {ops : Array Oper} {k : List Item} {K : AAct → Prop} {Q : Ex → AAct → Prop}
    (ho : ops[i]? = some o) (hd : dstOk A.n o = true) (hw : Region.wanted o (yielded ops a.tmps) = true) (hr : Rel P M0 S0 b cs0 m A a w)
    (h : orK P A o.dst K Q (aOp P (mutOf H) o A.eval A.h)) :
    Steps1 P M0 S0 b cs0 A.n (lone (b.atR a (.inRegion ops (i :: rest) :: k)) (csAt A.rc cs0) w) (.inRegion ops rest :: k) K Q := by
  have hok := op_ok (P := P) (mu := mutOf H) (o := o) hr.hok hr.eval
  have hfin : ∀ (a' : Act) v, (b.atR a' (.inRegion ops (i :: rest) :: k)).finish v = b.atR (a'.put o.dst v) (.inRegion ops rest :: k) := by
    intro a' v; rw [Frame.finish_atR, ho]; rfl
  have hg := stepGR_op (P := P) (b := b) (k := k) (cs := csAt A.rc cs0) (w := w) (rest := rest) ho hw
  -- a deferred call is laid down in no round
  have hdef : ∀ c, o.op = .defer c → (∃ d, aOp P (mutOf H) o A.eval A.h = .dfr d) ∨ aOp P (mutOf H) o A.eval A.h = .stuck := by
    intro c hc
    unfold aOp
    rw [hc]
    dsimp only
    split
    · unfold aDefer
      split
      · exact .inl ⟨_, rfl⟩
      · exact .inr rfl
    · exact .inr rfl
  generalize haop : aOp P (mutOf H) o A.eval A.h = r at h hok hdef
  have hnd : (∀ d, r ≠ .dfr d) → r ≠ .stuck → o.semAt b.roundOf a.eval = execOp a.eval o := by
    intro h1 h2
    refine hr.semAt (.inl fun c hc => ?_)
    rcases hdef c hc with ⟨d, hd⟩ | hs
    · exact h1 d hd
    · exact h2 hs
  cases r with
  | val v h' =>
    obtain ⟨⟨m', h1, w'⟩, v', rfl, hrun, hev, hhk, hrep⟩ := hok
    rw [hnd (by simp) (by simp)] at hg
    have hr' := (hr.ahead hev hhk).put (dst := o.dst) (dst_lt hd) hrep
    rw [← put_heap] at hr'
    refine .inl ⟨_, m', _, w', h, put_n _ _ _ _, hr', ?_⟩
    rw [put_rc, ← hfin]
    exact .one (step_lone_go (by rw [hg]; simp only at hrun; simp [stepG.apply, hrun]))
  | skip h' =>
    obtain ⟨⟨m', h1, w'⟩, rfl, hrun, hev, hhk⟩ := hok
    rw [hnd (by simp) (by simp)] at hg
    have hr' := (hr.ahead hev hhk).put (dst := o.dst) (dst_lt hd) (undef_rep _ _)
    rw [← put_heap] at hr'
    refine .inl ⟨_, m', _, w', h, put_n _ _ _ _, hr', ?_⟩
    rw [put_rc, ← hfin]
    exact .one (step_lone_go (by rw [hg]; simp [stepG.apply, hrun]))
  | call f args =>
    obtain ⟨cargs, hrun, hargs⟩ := hok
    rw [hnd (by simp) (by simp)] at hg
    obtain ⟨henter, hcall⟩ := h M0 m w cargs hr.hok hargs
    have hrun' : (execOp a.eval o).run P w = .ok (.enter f cargs) w := hrun.trans (henter w)
    obtain ⟨e, w', fr, ⟨re, h', m', hR, hev, hhk, hend⟩, hcomes, _, hleave⟩ := hcall (b.atR a (.inRegion ops (i :: rest) :: k) :: csAt A.rc cs0)
    have hstart : step P (lone (b.atR a (.inRegion ops (i :: rest) :: k)) (csAt A.rc cs0) w) =
        .next (lone (Frame.enter P f cargs .normal) (b.atR a (.inRegion ops (i :: rest) :: k) :: csAt A.rc cs0) w) :=
      step_lone_go (by rw [hg]; simp [stepG.apply, hrun', Frame.atR])
    cases e with
    | outgrown => exact hend.elim
    | returned v' =>
      cases re with
      | panic v => exact hend.elim
      | ret v =>
        have hr' := (hr.ahead hev hhk).put (dst := o.dst) (dst_lt hd) hend
        rw [← put_heap] at hr'
        refine .inl ⟨_, m', _, w', hR, put_n _ _ _ _, hr', ?_⟩
        rw [put_rc, ← hfin]
        exact .head hstart (Steps.trans hcomes (.one (step_leave_returned hleave)))
    | panicked ch =>
      cases re with
      | ret v => exact hend.elim
      | panic v =>
        obtain ⟨v', rfl, hv⟩ := hend
        refine .inr ⟨v, _, m', a, w', v', .inRegion ops (i :: rest) :: k, hR, rfl, hr.ahead hev hhk, hv, ?_⟩
        rw [← Frame.raise_atR]
        exact .head hstart (Steps.trans hcomes (.one (step_leave_panicked hleave)))
  | yld l args =>
    obtain ⟨bl, cargs, hrun, hargs, hlive⟩ := hok
    rw [hnd (by simp) (by simp)] at hg
    obtain ⟨⟨ob, hob, htag⟩, hyld⟩ := h
    have hbl : m.getD l none = some bl := by
      rcases hlive with hdead | hbl
      · have hdead' : A.h[l]? = some .dead := hdead
        rw [hob] at hdead'; cases hdead'; cases htag
      · exact hbl
    obtain ⟨f, tmps, assign, body, hy, hround⟩ := hyld M0 m w cargs bl hr.hok hargs hbl
    have hrun' : (execOp a.eval o).run P w = .ok (.round bl f tmps assign body) w := hrun.trans hy
    obtain ⟨e, w', ⟨re, h', m', hR, hev, hhk, hend⟩, hsteps⟩ := hround (b.atR a (.inRegion ops (i :: rest) :: k)) (csAt A.rc cs0)
    have hstart : step P (lone (b.atR a (.inRegion ops (i :: rest) :: k)) (csAt A.rc cs0) w) =
        .next (lone (Frame.round bl f tmps assign body .normal) (b.atR a (.inRegion ops (i :: rest) :: k) :: csAt A.rc cs0) w) :=
      step_lone_go (by rw [hg]; simp [stepG.apply, hrun', Frame.atR])
    cases e with
    | outgrown => exact hend.elim
    | returned v' =>
      cases re with
      | panic v => exact hend.elim
      | ret v =>
        have hr' := (hr.ahead hev hhk).put (dst := o.dst) (dst_lt hd) hend
        rw [← put_heap] at hr'
        refine .inl ⟨_, m', _, w', hR, put_n _ _ _ _, hr', ?_⟩
        rw [put_rc, ← hfin]
        exact .head hstart hsteps
    | panicked ch =>
      cases re with
      | ret v => exact hend.elim
      | panic v =>
        obtain ⟨v', rfl, hv⟩ := hend
        refine .inr ⟨v, _, m', a, w', v', .inRegion ops (i :: rest) :: k, hR, rfl, hr.ahead hev hhk, hv, ?_⟩
        rw [← Frame.raise_atR]
        exact .head hstart hsteps
  | dfr d =>
    have hnr : A.rc ≠ .rnd := by intro hc; simp only [orK, hc, dfrK] at h
    have h' : K ({ A with df := d :: A.df }.put o.dst (.p (.tuple [])) A.h) := by
      simp only [orK] at h
      cases hc : A.rc <;> rw [hc] at h <;> first | exact h | exact absurd hc hnr
    rw [hr.semAt (.inr hnr)] at hg
    cases d with
    | collected id => exact hok.elim
    | fn g args =>
      obtain ⟨fv, cap, dargs, cargs, hrun, hinv, hargs⟩ := hok
      have hr1 : Rel P M0 S0 b cs0 m { A with df := .fn g args :: A.df } { a with defers := { target := .fn fv cap, args := dargs } :: a.defers } w :=
        ⟨hr.size, hr.tmps, hr.hok, hr.ev, hr.le, ⟨⟨fv, cap, dargs, cargs, rfl, hinv, hargs⟩, hr.df⟩, hr.rc⟩
      refine .inl ⟨_, m, _, w, h', put_n _ _ _ _, hr1.put (dst := o.dst) (dst_lt hd) (undef_rep _ _), ?_⟩
      rw [put_rc, ← hfin]
      exact .one (step_lone_go (by
        rw [hg]
        have hrun' : (execOp a.eval o).run P w = _ := hrun
        simp [stepG.apply, hrun', Frame.atR]))
  | recover =>
    rw [hnd (by simp) (by simp)] at hg
    have hrun : (execOp a.eval o).run P w = .ok .recover w := hok
    have hnil : Rep M0 ⟨m, A.h, w⟩ .nilIface (.p .niliface) := rep0_of_pv .niliface
    have hkd := rc_kind hr
    have hrc := hr.rc
    -- nothing to take up
    have quiet : b.roundOf = none → b.kind = .deferred → recoverD (csAt A.rc cs0) = none → K (A.put o.dst (.p .niliface) A.h) →
        Steps1 P M0 S0 b cs0 A.n (lone (b.atR a (.inRegion ops (i :: rest) :: k)) (csAt A.rc cs0) w) (.inRegion ops rest :: k) K Q := by
      intro h1 h2 h3 hK
      refine .inl ⟨_, m, _, w, hK, put_n _ _ _ _, hr.put (dst := o.dst) (dst_lt hd) hnil, ?_⟩
      rw [put_rc, ← hfin]
      refine .one (step_lone_go ?_)
      have htr := tryRecover_deferred (fr := b.atR a (.inRegion ops (i :: rest) :: k)) h2 (csAt A.rc cs0)
      rw [h3] at htr
      have hro : (b.atR a (.inRegion ops (i :: rest) :: k)).roundOf = none := h1
      rw [hg]
      simp [stepG.apply, hrun, htr, hro]
    simp only [orK] at h
    cases hc : A.rc with
    | no => rw [hc] at h; exact h.elim
    | rnd => rw [hc] at h; exact h.elim
    | none =>
      rw [hc] at h hrc
      rw [hc] at quiet
      exact quiet hrc.1 hrc.2.1 hrc.2.2 h
    | got v =>
      rw [hc] at h hrc
      rw [hc] at quiet
      obtain ⟨h1, h2, v', cs1, h3⟩ := hrc
      refine quiet h1 h2 ?_ h
      simp only [csAt, h3]
      exact recoverD_recovered h3
    | pend v =>
      rw [hc] at h hrc
      obtain ⟨h1, h2, v', cs1, h3, h4⟩ := hrc
      have hr1 : Rel P M0 S0 b cs0 m { A with rc := .got v } a w := ⟨hr.size, hr.tmps, hr.hok, hr.ev, hr.le, hr.df, ⟨h1, h2, v', cs1, h3⟩⟩
      refine .inl ⟨_, m, _, w, h, put_n _ _ _ _, hr1.put (dst := o.dst) (dst_lt hd) (rep0_of_pv h4), ?_⟩
      rw [put_rc, ← hfin]
      refine .one (step_lone_go ?_)
      have htr := tryRecover_deferred (fr := b.atR a (.inRegion ops (i :: rest) :: k)) h2 cs0
      rw [h3] at htr
      have hro : (b.atR a (.inRegion ops (i :: rest) :: k)).roundOf = none := h1
      rw [hc] at hg
      simp only [csAt] at hg
      rw [show csAt (Rc.pend v) cs0 = cs0 from rfl, hg]
      simp [stepG.apply, hrun, htr, hro, csAt, h3]
  | panic v =>
    obtain ⟨v', hrun, hv⟩ := hok
    rw [hnd (by simp) (by simp)] at hg
    refine .inr ⟨v, A, m, a, w, v', .inRegion ops (i :: rest) :: k, h, rfl, hr, hv, ?_⟩
    rw [← Frame.raise_atR]
    exact .one (step_lone_go (by rw [hg]; simp [stepG.apply, hrun]))
  | stuck => exact h.elim

end Abs
end Go.Proofs.Ythekmbikolpmlaa
