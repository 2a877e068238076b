/-
  LAWS: a round of a loop over a function, out of what its code comes to.
-/
import Derived.Test.YthekmbikolpmlaaAbsMono
namespace Go.Proofs.Ythekmbikolpmlaa
namespace Abs
variable {P : Program} {M0 : Nat → Prop}

theorem fold_params {n : Nat} {R : Value → AV → Prop} : ∀ (ps : List Tmp) (as : List Value) (xs : List AV) (T : Array Value) (F : Nat → AV), T.size = n → (∀ p, p ∈ ps → p < n) → as.length = xs.length →
    (∀ (i : Nat) (x : AV), xs[i]? = some x → R (as.getD i undef) x) → (∀ t, R (T.getD t undef) (F t)) →
    ((ps.zip as).foldl (fun T (x : Tmp × Value) => T.setIfInBounds x.1 x.2) T).size = n ∧ ∀ t, R (((ps.zip as).foldl (fun T (x : Tmp × Value) => T.setIfInBounds x.1 x.2) T).getD t undef) (putParams F ps xs t)
  | [], _, _, T, F, hT, _, _, _, hF => ⟨hT, hF⟩
  | p :: ps, [], xs, T, F, hT, _, hl, _, hF => by
    have : xs = [] := by cases xs <;> simp_all
    subst this
    exact ⟨hT, hF⟩
  | p :: ps, a :: as, [], T, F, hT, _, hl, _, hF => by simp at hl
  | p :: ps, a :: as, x :: xs, T, F, hT, hp, hl, hx, hF => by
    have hpn : p < n := hp p (by simp)
    refine fold_params ps as xs (T.setIfInBounds p a) (upd F p x) (by simpa using hT) (fun q hq => hp q (by simp [hq])) (by simpa using hl) (fun i y hy => by simpa using hx (i + 1) y (by simpa using hy)) fun t => ?_
    rw [upd_at]
    by_cases ht : t = p
    · subst ht
      have h0 := hx 0 x rfl
      simpa [hT, hpn] using h0
    · rw [if_neg ht]
      have := hF t
      simpa [Array.getElem?_setIfInBounds_ne (Ne.symm ht)] using this

theorem zip_fold (ps : Array Tmp) (as : Array Value) (T : Array Value) : (ps.zip as).foldl (fun tmps (x : Tmp × Value) => tmps.setIfInBounds x.1 x.2) T = (ps.toList.zip as.toList).foldl (fun T (x : Tmp × Value) => T.setIfInBounds x.1 x.2) T := by
  rw [← Array.foldl_toList]
  simp

/-- A ROUND, OUT OF ITS CODE -/
theorem hyld_of_wp (hD : DrawLaw P) {H : Hints} {l n : Nat} {tmps : Nat → AV} {ps : Array Tmp} {assign body : Code} {args : List AV} {h : Heap} {R : AEnd → Heap → Prop}
    (ho : h[l]? = some (.loop n tmps ps assign body .ready none)) (hps : paramsOk n ps = true) (hlen : ps.size = args.length) (hoka : okCode H n assign = true) (hokb : okCode H n body = true)
    (hw : wp P H assign (assignQ n tmps ps assign body l h.length (fun A => wp P H body (roundQ n tmps ps assign body l h.length R) A)) { n := n, bs := h.length, rc := .rnd, tmps := putParams tmps ps.toList args, h := h, df := [] }) :
    HYld P l args h R := by
  refine ⟨⟨_, ho, rfl⟩, fun M0 m w cargs bl hS ha hbl => ?_⟩
  obtain ⟨bl', r, hbl', hrb, hrn, hrt, hrp, hra, hrbd, hrst, hrpd⟩ := hS.obj l _ ho
  have : bl' = bl := by
    have e : m.getD l none = some bl' := hbl'
    rw [hbl] at e; cases e; rfl
  subst this
  have hrb' : w.heap[bl']? = some (.loop r) := hrb
  have hsz : cargs.size = r.params.size := by rw [ha.1, hrp, hlen]
  refine ⟨r.fn, _, assign, body, by rw [run_yield hrb' hsz, hra, hrbd], fun c cs => ?_⟩
  have hfold := fold_params (n := n) (R := Rep M0 ⟨m, h, w⟩) ps.toList cargs.toList args r.tmps tmps hrn (fun p hp => by
      simp only [paramsOk, List.all_eq_true, decide_eq_true_eq] at hps
      exact hps p hp) (by simpa using ha.1) (fun i x hx => by simpa using ha.2 i x hx) hrt
  obtain ⟨T, hTdef⟩ : ∃ T, T = (r.params.zip cargs).foldl (fun tmps (x : Tmp × Value) => tmps.setIfInBounds x.1 x.2) r.tmps := ⟨_, rfl⟩
  have hT2 : T = (ps.toList.zip cargs.toList).foldl (fun T (x : Tmp × Value) => T.setIfInBounds x.1 x.2) r.tmps := by rw [hTdef, zip_fold, hrp]
  rw [← hT2] at hfold
  rw [← hTdef]
  have hround : Frame.round bl' r.fn T assign body .normal = ({ (default : Frame) with fn := r.fn, kind := .normal, roundOf := some bl' }).atR { tmps := T, defers := [] } [.code assign, .beginRound, .code body] := rfl
  rw [hround]
  obtain ⟨b, hb⟩ : ∃ b : Frame, b = { (default : Frame) with fn := r.fn, kind := .normal, roundOf := some bl' } := ⟨_, rfl⟩
  have hbr : b.roundOf = some bl' := by rw [hb]
  have hbk : b.kind = .normal := by rw [hb]
  rw [← hb]
  have hr0 : Rel P M0 ⟨m, h, w⟩ b (c :: cs) m { n := n, bs := h.length, rc := .rnd, tmps := putParams tmps ps.toList args, h := h, df := [] } { tmps := T, defers := [] } w :=
    { size := hfold.1, tmps := hfold.2, hok := hS, ev := Ev.refl _ _, le := Nat.le_refl _, df := trivial, rc := ⟨by rw [hbr]; rfl, hbk⟩ }
  obtain ⟨e, A1, m1, a1, w1, hq, hn1, hr1, harr⟩ := wp_sim hD assign (k := [.beginRound, .code body]) hoka hr0 rfl hw
  cases e with
  | exit id => exact hq.elim
  | ret => exact hq.elim
  | panic v => exact hq.elim
  | normal =>
    obtain ⟨hbs1, hob1, hK⟩ := hq
    have hlt : l < h.length := (List.getElem?_eq_some_iff.1 ho).1
    -- the record's block stays
    have block : ∀ {m' : List (Option Nat)} {h' : Heap} {w' : World} {x : AObj}, Ev h.length ⟨m, h, w⟩ ⟨m', h', w'⟩ → h'[l]? = some x → x.tag = some .yl → m'.getD l none = some bl' := by
      intro m' h' w' x hev hx htag
      obtain ⟨o', ho', hoe⟩ := hev.obj l _ hlt ho
      have : o' = x := by
        have e : h'[l]? = some o' := ho'
        rw [hx] at e; cases e; rfl
      subst this
      rcases hoe with he | ⟨_, _, _, he, _⟩ | ⟨_, _, he⟩
      · rw [he] at htag; cases htag
      · cases he
      · exact he.trans hbl
    have bs_of : ∀ {m' : List (Option Nat)} {A' : AAct} {a' : Act} {w' : World}, Rel P M0 ⟨m, h, w⟩ b (c :: cs) m' A' a' w' → A'.bs = h.length → Ev h.length ⟨m, h, w⟩ ⟨m', A'.h, w'⟩ := by
      intro m' A' a' w' hr hbs
      have := hr.ev
      rwa [hbs] at this
    have hB : wp P H body (roundQ n tmps ps assign body l h.length R) { A1 with h := A1.h.set l (.loop n tmps ps assign body .busy none) } := hK
    have hm1 := block (bs_of hr1 hbs1) hob1 rfl
    obtain ⟨bl1, r1, e1, hr1b, hr1n, hr1t, hr1p, hr1a, hr1bd, hr1s, hr1pd⟩ := hr1.hok.obj l _ hob1
    have : bl1 = bl' := by
      have e : m1.getD l none = some bl1 := e1
      rw [hm1] at e; cases e; rfl
    subst this
    have hr1b' : w1.heap[bl1]? = some (.loop r1) := hr1b
    have hbegin := run_beginRound (P := P) hr1b' hr1s
    obtain ⟨hk2, hev2⟩ := putO_ok (S := ⟨m1, A1.h, w1⟩) hr1.hok (o := .loop n tmps ps assign body .busy none) (ob := .loop { r1 with state := .busy }) hm1 hob1 hr1b (loop_shape hr1b) (by intro C T f; simp)
      (.inr (.inr ⟨by simp [AObj.tag], rfl, rfl⟩)) (fun hev hx => ⟨bl1, { r1 with state := .busy }, rfl, hx, hr1n, fun t => hev.keep (hr1t t), hr1p, hr1a, hr1bd, rfl, hr1pd⟩)
    have hr2 := hr1.ahead hev2 hk2
    obtain ⟨e, A3, m3, a3, w3, hq3, hn3, hr3, harr3⟩ := wp_sim hD body (k := []) hokb hr2 (show A1.n = n from hn1) hB
    have hrc1 : csAt A1.rc (c :: cs) = c :: cs := by
      have := hr1.rc
      cases hc : A1.rc with
      | got v => rw [hc] at this; exact absurd this.1 (by rw [hbr]; simp)
      | _ => rfl
    have hrc3 : csAt A3.rc (c :: cs) = c :: cs := by
      have := hr3.rc
      cases hc : A3.rc with
      | got v => rw [hc] at this; exact absurd this.1 (by rw [hbr]; simp)
      | _ => rfl
    have hcs0 : csAt Rc.rnd (c :: cs) = c :: cs := rfl
    have hstart : Steps P (lone (b.atR { tmps := T, defers := [] } [.code assign, .beginRound, .code body]) (c :: cs) w) (lone (b.atR a1 [.code body]) (c :: cs) (w1.putObj bl1 (.loop { r1 with state := .busy }))) := by
      have h1 : Steps P (lone (b.atR { tmps := T, defers := [] } [.code assign, .beginRound, .code body]) (csAt Rc.rnd (c :: cs)) w) (lone (b.atR a1 [.beginRound, .code body]) (csAt A1.rc (c :: cs)) w1) := harr
      rw [hrc1] at h1
      exact Steps.trans h1 (.one (stepR_beginRound hbr hbegin))
    -- the end of a round
    have fin : ∀ (jump : Option Code) (st : LoopState) (t : Bool), (if jump.isNone then LoopState.ready else .done) = st → jump.isNone = t → A3.bs = h.length → (∃ st pend, A3.h[l]? = some (.loop n tmps ps assign body st pend)) →
        R (.ret (.p (.bool t))) (A3.h.set l (.loop n tmps ps assign body st jump)) →
        (∀ v w', (Instr.endRound bl1 jump).run P w3 = .ok v w' → Steps P (lone (b.atR a1 [.code body]) (c :: cs) (w1.putObj bl1 (.loop { r1 with state := .busy }))) (lone (c.finish v) cs w')) →
        ∃ e w', Behind M0 ⟨m, h, w⟩ R e w' ∧ match e with
          | .returned v => Steps P (lone (b.atR { tmps := T, defers := [] } [.code assign, .beginRound, .code body]) (c :: cs) w) (lone (c.finish v) cs w')
          | .panicked ch => Steps P (lone (b.atR { tmps := T, defers := [] } [.code assign, .beginRound, .code body]) (c :: cs) w) (lone (c.raise ch) cs w')
          | .outgrown => False := by
      intro jump st t hst ht hbs3 ⟨st3, pend3, hob3⟩ hR hsteps
      have hm3 := block (bs_of hr3 hbs3) hob3 rfl
      obtain ⟨bl3, r3, e3, hr3b, hr3n, hr3t, hr3p, hr3a, hr3bd, hr3s, hr3pd⟩ := hr3.hok.obj l _ hob3
      have : bl3 = bl1 := by
        have e : m3.getD l none = some bl3 := e3
        rw [hm3] at e; cases e; rfl
      subst this
      have hr3b' : w3.heap[bl3]? = some (.loop r3) := hr3b
      have hend := run_endRound (P := P) jump hr3b'
      rw [hst, ht] at hend
      obtain ⟨hk4, hev4⟩ := putO_ok (S := ⟨m3, A3.h, w3⟩) hr3.hok (o := .loop n tmps ps assign body st jump) (ob := .loop { r3 with state := st, pending := jump }) hm3 hob3 hr3b (loop_shape hr3b) (by intro C T f; simp)
        (.inr (.inr ⟨by simp [AObj.tag], rfl, rfl⟩)) (fun hev hx => ⟨bl3, { r3 with state := st, pending := jump }, rfl, hx, hr3n, fun t => hev.keep (hr3t t), hr3p, hr3a, hr3bd, rfl, rfl⟩)
      refine ⟨.returned (.bool t), _, ⟨.ret (.p (.bool t)), _, m3, hR, (bs_of hr3 hbs3).trans (hev4.mono (by
          have := (bs_of hr3 hbs3).len (Nat.le_refl _)
          exact this)), hk4, RepP.bool t⟩, Steps.trans hstart (hsteps _ _ hend)⟩
    have harr3' : Arr P (Avoid M0 m3) (lone (b.atR a1 [.code body]) (c :: cs) (w1.putObj bl1 (.loop { r1 with state := .busy }))) b [] (c :: cs) a3 w3 e := by
      have h1 : Arr P (Avoid M0 m3) (lone (b.atR a1 [.code body]) (csAt A1.rc (c :: cs)) (w1.putObj bl1 (.loop { r1 with state := .busy }))) b [] (csAt A3.rc (c :: cs)) a3 w3 e := harr3
      rwa [hrc1, hrc3] at h1
    cases e with
    | panic v => exact hq3.elim
    | normal => exact fin none .ready true rfl rfl hq3.1 hq3.2.1 hq3.2.2 fun v w' hend => Steps.trans harr3' (.one (stepR_round_end hbr hbk hend))
    | ret => exact fin (some .ret) .done false rfl rfl hq3.1 hq3.2.1 hq3.2.2 fun v w' hend => (by
                  obtain ⟨k₁, hs⟩ := harr3'
                  exact Steps.trans hs (.one (stepR_round_ret hbr hbk hend)))
    | exit id => exact fin (some (.exit id)) .done false rfl rfl hq3.1 hq3.2.1 hq3.2.2 fun v w' hend => (by
                  obtain ⟨k₁, hx, hs⟩ := harr3'.2 rfl
                  exact Steps.trans hs (.one (stepR_round_exit hbr hbk hx hend)))

end Abs
end Go.Proofs.Ythekmbikolpmlaa
