/-
  LAWS: a loop over an iterator, by its rounds; what the loop's record is stays out of sight.
-/
import Derived.Test.YtdgmmijimclooaaAbsHead
namespace Go.Proofs.Ytdgmmijimclooaa
namespace Abs
variable {P : Program} {H : Hints} {Q : Cont}

def assignO (oR oB : AObj) (l bs : Nat) (K : AAct → Prop) : Ex → AAct → Prop
  | .normal, A => A.bs = bs ∧ A.h[l]? = some oR ∧ K { A with h := A.h.set l oB }
  | _, _ => False
def roundO (oB oR : AObj) (oD : Code → AObj) (l bs : Nat) (R : AEnd → Heap → Prop) : Ex → AAct → Prop
  | .normal, A => A.bs = bs ∧ A.h[l]? = some oB ∧ R (.ret (.p (.bool true))) (A.h.set l oR)
  | .exit id, A => A.bs = bs ∧ A.h[l]? = some oB ∧ R (.ret (.p (.bool false))) (A.h.set l (oD (.exit id)))
  | .ret, A => A.bs = bs ∧ A.h[l]? = some oB ∧ R (.ret (.p (.bool false))) (A.h.set l (oD .ret))
  | .panic _, _ => False
theorem WQ_assignO (oR oB : AObj) (l bs : Nat) (c : Code) (A : AAct) : @WQ ⟨assignO oR oB l bs (fun A => wp P H c Q A)⟩ .normal A = (A.bs = bs ∧ A.h[l]? = some oR ∧ @W ⟨P, H, c, Q⟩ { A with h := A.h.set l oB }) := propext Iff.rfl
section
variable (oB oR : AObj) (oD : Code → AObj) (l bs : Nat) (R : AEnd → Heap → Prop) (A : AAct)
theorem WQ_roundO_normal : @WQ ⟨roundO oB oR oD l bs R⟩ .normal A = (A.bs = bs ∧ A.h[l]? = some oB ∧ R (.ret (.p (.bool true))) (A.h.set l oR)) := propext Iff.rfl
theorem WQ_roundO_exit (id : Nat) : @WQ ⟨roundO oB oR oD l bs R⟩ (.exit id) A = (A.bs = bs ∧ A.h[l]? = some oB ∧ R (.ret (.p (.bool false))) (A.h.set l (oD (.exit id)))) := propext Iff.rfl
theorem WQ_roundO_ret : @WQ ⟨roundO oB oR oD l bs R⟩ .ret A = (A.bs = bs ∧ A.h[l]? = some oB ∧ R (.ret (.p (.bool false))) (A.h.set l (oD .ret))) := propext Iff.rfl
end

/-- where a loop's jump leads -/
def jumpTo (Q : Cont) (A : AAct) : Code → Prop
  | .ret => @WQ ⟨Q⟩ .ret A
  | .exit id => @WQ ⟨Q⟩ (.exit id) A
  | _ => False

theorem W_iter {ps : Array Tmp} {assign body : Code} {g : Operand} {A : AAct} {fv : PV} {l : List PV} (Inv : AObj → Nat → Heap → Prop) (Fin : Code → Heap → Prop)
    (hrc : A.rc = .no) (hg : A.eval g = .p fv) (hit : Iter P fv l) (hD : DrawLaw P) (hps : paramsOk A.n ps = true) (hp1 : ps.size = 1) (hoka : okCode H A.n assign = true) (hokb : okCode H A.n body = true)
    (hlen : ∀ o k h, Inv o k h → A.h.length + 2 ≤ h.length) (hat : ∀ o k h, Inv o k h → h[A.h.length + 1]? = some o) (h0 : ∀ o, Inv o 0 (A.h ++ [.dblock, o]))
    (hround : ∀ (oR oB : AObj) (oD : Code → AObj) (k : Nat) (v : PV) (h : Heap), l[k]? = some v → Inv oR k h →
      @W ⟨P, H, assign, assignO oR oB (A.h.length + 1) h.length (fun B => wp P H body (roundO oB oR oD (A.h.length + 1) h.length
        (fun r h' => (r = .ret (.p (.bool true)) ∧ Inv oR (k + 1) h') ∨ (r = .ret (.p (.bool false)) ∧ ∃ j, Fin j h' ∧ h'[A.h.length + 1]? = some (oD j) ∧ A.h.length + 2 ≤ h'.length))) B)⟩
        { n := A.n, bs := h.length, rc := .rnd, tmps := putParams A.tmps ps.toList [.p v], h := h, df := [] })
    (hend : ∀ o h, Inv o l.length h → @WQ ⟨Q⟩ .normal { A with h := h.set (A.h.length + 1) .dead, df := .collected A.h.length :: A.df })
    (hfin : ∀ j h, Fin j h → jumpTo Q { A with h := h.set (A.h.length + 1) .dead, df := .collected A.h.length :: A.df } j) : @W ⟨P, H, .rangeFunc g ps assign body, Q⟩ A := by
  obtain ⟨gf, first, cap, rfl, hi⟩ := hit
  have hoR : ∃ oR, oR = AObj.loop A.n A.tmps ps assign body .ready none := ⟨_, rfl⟩
  obtain ⟨oR, hR⟩ := hoR
  refine W_range (f := gf) (args := first.map .p ++ [.ref .yl (A.h.length + 1)] ++ cap.map .p)
    (R := fun r h => r = .ret (.p (.tuple [])) ∧ (Inv oR l.length h ∨ ∃ j, Fin j h ∧ h[A.h.length + 1]? = some (.loop A.n A.tmps ps assign body .done (some j))))
    hrc (by rw [hg]; rfl) ?_ (fun v h hr => ?_) fun v h hr => (by cases hr.1)
  · rw [← hR]
    refine (hi (A.h.length + 1) (Inv oR) (fun h => ∃ j, Fin j h ∧ h[A.h.length + 1]? = some (.loop A.n A.tmps ps assign body .done (some j))) (A.h ++ [.dblock, oR]) (fun k h hI => by simpa using hlen _ _ _ hI) (fun k v h hv hI => ?_) (h0 oR)).mono fun r h hr => hr
    have hat' := hat _ _ _ hI
    rw [hR] at hat'
    refine hyld_of_wp hD (H := H) hat' hps (by simpa using hp1) hoka hokb ?_
    have := hround oR (.loop A.n A.tmps ps assign body .busy none) (fun j => .loop A.n A.tmps ps assign body .done (some j)) k v h hv hI
    refine wp_mono assign (fun e B hB => ?_) this
    cases e with
    | normal =>
      obtain ⟨b1, b2, b3⟩ := hB
      rw [hR] at b2
      refine ⟨b1, b2, wp_mono body (fun e C hC => ?_) b3⟩
      cases e with
      | normal =>
        obtain ⟨c1, c2, c3⟩ := hC
        refine ⟨c1, ⟨_, _, c2⟩, ?_⟩
        rw [← hR]
        rcases c3 with c3 | ⟨c3, _⟩
        · exact .inl c3
        · cases c3
      | exit id =>
        obtain ⟨c1, c2, c3⟩ := hC
        refine ⟨c1, ⟨_, _, c2⟩, ?_⟩
        rcases c3 with ⟨c3, _⟩ | ⟨c3, j, f1, f2, f3⟩
        · cases c3
        · exact .inr ⟨rfl, ⟨j, f1, f2⟩, by simpa using f3⟩
      | ret =>
        obtain ⟨c1, c2, c3⟩ := hC
        refine ⟨c1, ⟨_, _, c2⟩, ?_⟩
        rcases c3 with ⟨c3, _⟩ | ⟨c3, j, f1, f2, f3⟩
        · cases c3
        · exact .inr ⟨rfl, ⟨j, f1, f2⟩, by simpa using f3⟩
      | panic v => exact hC
    | exit id => exact hB
    | ret => exact hB
    | panic v => exact hB
  · obtain ⟨hr, hI⟩ := hr
    rcases hI with hI | ⟨j, f1, f2⟩
    · have hat' := hat _ _ _ hI
      rw [hR] at hat'
      rw [hat']
      exact ⟨by simp, hend _ _ hI⟩
    · rw [f2]
      have := hfin j h f1
      refine ⟨by simp, ?_⟩
      cases j <;> first | exact this.elim | exact this

theorem arr_toList (l : List Tmp) : (List.toArray l).toList = l := rfl
end Abs
end Go.Proofs.Ytdgmmijimclooaa
