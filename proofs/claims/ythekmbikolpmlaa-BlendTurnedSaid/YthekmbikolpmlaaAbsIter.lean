/-
  LAWS: a loop over an iterator, by its rounds; what the loop's record is stays out of sight.
-/
import Derived.Test.YthekmbikolpmlaaAbsHead
namespace Go.Proofs.Ythekmbikolpmlaa
namespace Abs
variable {P : Program} {H : Hints} {Q : Cont}

def assignO (oR oB : AObj) (l bs : Nat) (K : AAct → Prop) : Ex → AAct → Prop
  | .normal, A => A.bs = bs ∧ A.h[l]? = some oR ∧ K { A with h := A.h.set l oB }
  | _, _ => False
def roundO (oB oR : AObj) (oD : Code → AObj) (l bs : Nat) (R : AEnd → Heap → Prop) : Ex → AAct → Prop
  | .normal, A => A.bs = bs ∧ A.h[l]? = some oB ∧ R (.ret (.p (.bool true))) (A.h.set l oR)
  | .exit id, A => A.bs = bs ∧ A.h[l]? = some oB ∧ R (.ret (.p (.bool false))) (A.h.set l (oD (.exit id)))
  | .ret, A => A.bs = bs ∧ A.h[l]? = some oB ∧ R (.ret (.p (.bool false))) (A.h.set l (oD .ret))
  | .panic _, _ => False
theorem WQ_assignO (oR oB : AObj) (l bs : Nat) (c : Code) (A : AAct) : @WQ ⟨assignO oR oB l bs (fun A => wp P H c Q A)⟩ .normal A = (A.bs = bs ∧ A.h[l]? = some oR ∧ @W ⟨P, H, c, Q⟩ { A with h := A.h.set l oB }) := propext Iff.rfl
section
variable (oB oR : AObj) (oD : Code → AObj) (l bs : Nat) (R : AEnd → Heap → Prop) (A : AAct)
theorem WQ_roundO_normal : @WQ ⟨roundO oB oR oD l bs R⟩ .normal A = (A.bs = bs ∧ A.h[l]? = some oB ∧ R (.ret (.p (.bool true))) (A.h.set l oR)) := propext Iff.rfl
theorem WQ_roundO_exit (id : Nat) : @WQ ⟨roundO oB oR oD l bs R⟩ (.exit id) A = (A.bs = bs ∧ A.h[l]? = some oB ∧ R (.ret (.p (.bool false))) (A.h.set l (oD (.exit id)))) := propext Iff.rfl
theorem WQ_roundO_ret : @WQ ⟨roundO oB oR oD l bs R⟩ .ret A = (A.bs = bs ∧ A.h[l]? = some oB ∧ R (.ret (.p (.bool false))) (A.h.set l (oD .ret))) := propext Iff.rfl
end

/-- where a loop's jump leads -/
def jumpTo (Q : Cont) (A : AAct) : Code → Prop
  | .ret => @WQ ⟨Q⟩ .ret A
  | .exit id => @WQ ⟨Q⟩ (.exit id) A
  | _ => False

theorem W_iter {ps : Array Tmp} {assign body : Code} {g : Operand} {A : AAct} {fv : PV} {l : List PV} (Inv : AObj → Nat → Heap → Prop) (Fin : Code → Heap → Prop)
    (hrc : A.rc = .no) (hg : A.eval g = .p fv) (hit : Iter P fv l) (hD : DrawLaw P) (hps : paramsOk A.n ps = true) (hp1 : ps.size = 1) (hoka : okCode H A.n assign = true) (hokb : okCode H A.n body = true)
    (hlen : ∀ o k h, Inv o k h → A.h.length + 2 ≤ h.length) (hat : ∀ o k h, Inv o k h → h[A.h.length + 1]? = some o) (h0 : ∀ o, Inv o 0 (A.h ++ [.dblock, o]))
    (hround : ∀ (oR oB : AObj) (oD : Code → AObj) (k : Nat) (v : PV) (h : Heap), l[k]? = some v → Inv oR k h →
      @W ⟨P, H, assign, assignO oR oB (A.h.length + 1) h.length (fun B => wp P H body (roundO oB oR oD (A.h.length + 1) h.length
        (fun r h' => (r = .ret (.p (.bool true)) ∧ Inv oR (k + 1) h') ∨ (r = .ret (.p (.bool false)) ∧ ∃ j, Fin j h' ∧ h'[A.h.length + 1]? = some (oD j) ∧ A.h.length + 2 ≤ h'.length))) B)⟩
        { n := A.n, bs := h.length, rc := .rnd, tmps := putParams A.tmps ps.toList [.p v], h := h, df := [] })
    (hend : ∀ o h, Inv o l.length h → @WQ ⟨Q⟩ .normal { A with h := h.set (A.h.length + 1) .dead, df := .collected A.h.length :: A.df })
    (hfin : ∀ j h, Fin j h → jumpTo Q { A with h := h.set (A.h.length + 1) .dead, df := .collected A.h.length :: A.df } j) : @W ⟨P, H, .rangeFunc g ps assign body, Q⟩ A := by
  obtain ⟨gf, first, cap, rfl, hi⟩ := hit
  have hoR : ∃ oR, oR = AObj.loop A.n A.tmps ps assign body .ready none := ⟨_, rfl⟩
  obtain ⟨oR, hR⟩ := hoR
  refine W_range (f := gf) (args := first.map .p ++ [.ref .yl (A.h.length + 1)] ++ cap.map .p)
    (R := fun r h => r = .ret (.p (.tuple [])) ∧ (Inv oR l.length h ∨ ∃ j, Fin j h ∧ h[A.h.length + 1]? = some (.loop A.n A.tmps ps assign body .done (some j))))
    hrc (by rw [hg]; rfl) ?_ (fun v h hr => ?_) fun v h hr => (by cases hr.1)
  · rw [← hR]
    refine (hi (A.h.length + 1) (Inv oR) (fun h => ∃ j, Fin j h ∧ h[A.h.length + 1]? = some (.loop A.n A.tmps ps assign body .done (some j))) (A.h ++ [.dblock, oR]) (fun k h hI => by simpa using hlen _ _ _ hI) (fun k v h hv hI => ?_) (h0 oR)).mono fun r h hr => hr
    have hat' := hat _ _ _ hI
    rw [hR] at hat'
    refine hyld_of_wp hD (H := H) hat' hps (by simpa using hp1) hoka hokb ?_
    have := hround oR (.loop A.n A.tmps ps assign body .busy none) (fun j => .loop A.n A.tmps ps assign body .done (some j)) k v h hv hI
    refine wp_mono assign (fun e B hB => ?_) this
    cases e with
    | normal =>
      obtain ⟨b1, b2, b3⟩ := hB
      rw [hR] at b2
      refine ⟨b1, b2, wp_mono body (fun e C hC => ?_) b3⟩
      cases e with
      | normal =>
        obtain ⟨c1, c2, c3⟩ := hC
        refine ⟨c1, ⟨_, _, c2⟩, ?_⟩
        rw [← hR]
        rcases c3 with c3 | ⟨c3, _⟩
        · exact .inl c3
        · cases c3
      | exit id =>
        obtain ⟨c1, c2, c3⟩ := hC
        refine ⟨c1, ⟨_, _, c2⟩, ?_⟩
        rcases c3 with ⟨c3, _⟩ | ⟨c3, j, f1, f2, f3⟩
        · cases c3
        · exact .inr ⟨rfl, ⟨j, f1, f2⟩, by simpa using f3⟩
      | ret =>
        obtain ⟨c1, c2, c3⟩ := hC
        refine ⟨c1, ⟨_, _, c2⟩, ?_⟩
        rcases c3 with ⟨c3, _⟩ | ⟨c3, j, f1, f2, f3⟩
        · cases c3
        · exact .inr ⟨rfl, ⟨j, f1, f2⟩, by simpa using f3⟩
      | panic v => exact hC
    | exit id => exact hB
    | ret => exact hB
    | panic v => exact hB
  · obtain ⟨hr, hI⟩ := hr
    rcases hI with hI | ⟨j, f1, f2⟩
    · have hat' := hat _ _ _ hI
      rw [hR] at hat'
      rw [hat']
      exact ⟨by simp, hend _ _ hI⟩
    · rw [f2]
      have := hfin j h f1
      refine ⟨by simp, ?_⟩
      cases j <;> first | exact this.elim | exact this

/-! iterators that yield slices of their own memory -/
def IterM (P : Program) (fv : PV) (sz : Nat) (l : List (List PV)) : Prop :=
  ∃ (g : FuncId) (first cap : List PV), fv = .func (.func g) first cap ∧ ∀ (id : Nat) (Inv : Nat → Heap → Prop) (Fin : Heap → Prop) (h0 : Heap), id < h0.length →
    (∀ (k : Nat) (xs : List PV) (lo mid : Heap) (j : Nat), l[k]? = some xs → Inv k lo → lo.length = h0.length → mid[j]? = some (.row sz (xs.map .p)) →
      HYld P id [.slice (j + h0.length) xs.length 0 xs.length] (lo ++ mid) (fun r h' => ∃ lo' ext, h' = lo' ++ mid ++ ext ∧ lo'.length = h0.length ∧
        ((r = .ret (.p (.bool true)) ∧ Inv (k + 1) lo') ∨ (r = .ret (.p (.bool false)) ∧ Fin lo')))) →
    Inv 0 h0 → HCall P g (first.map .p ++ [.ref .yl id] ++ cap.map .p) h0 (fun r h' => r = .ret (.p (.tuple [])) ∧ ∃ lo mid, h' = lo ++ mid ∧ lo.length = h0.length ∧ (Inv l.length lo ∨ Fin lo))

theorem W_iterM {ps : Array Tmp} {assign body : Code} {g : Operand} {A : AAct} {fv : PV} {sz : Nat} {l : List (List PV)} (Inv : AObj → Nat → Heap → Prop) (Fin : Code → Heap → Prop)
    (hrc : A.rc = .no) (hg : A.eval g = .p fv) (hit : IterM P fv sz l) (hD : DrawLaw P) (hps : paramsOk A.n ps = true) (hp1 : ps.size = 1) (hoka : okCode H A.n assign = true) (hokb : okCode H A.n body = true)
    (hat : ∀ o k h, Inv o k h → h[A.h.length + 1]? = some o) (h0 : ∀ o, Inv o 0 (A.h ++ [.dblock, o]))
    (hround : ∀ (oR oB : AObj) (oD : Code → AObj) (k : Nat) (xs : List PV) (lo mid : Heap) (j : Nat), l[k]? = some xs → Inv oR k lo → lo.length = A.h.length + 2 → mid[j]? = some (.row sz (xs.map .p)) →
      @W ⟨P, H, assign, assignO oR oB (A.h.length + 1) (lo ++ mid).length (fun B => wp P H body (roundO oB oR oD (A.h.length + 1) (lo ++ mid).length
        (fun r h' => ∃ lo' ext, h' = lo' ++ mid ++ ext ∧ lo'.length = A.h.length + 2 ∧ ((r = .ret (.p (.bool true)) ∧ Inv oR (k + 1) lo') ∨ (r = .ret (.p (.bool false)) ∧ ∃ c, Fin c lo' ∧ lo'[A.h.length + 1]? = some (oD c))))) B)⟩
        { n := A.n, bs := (lo ++ mid).length, rc := .rnd, tmps := putParams A.tmps ps.toList [.slice (j + (A.h.length + 2)) xs.length 0 xs.length], h := lo ++ mid, df := [] })
    (hend : ∀ o lo mid, Inv o l.length lo → lo.length = A.h.length + 2 → @WQ ⟨Q⟩ .normal { A with h := (lo ++ mid).set (A.h.length + 1) .dead, df := .collected A.h.length :: A.df })
    (hfin : ∀ c lo mid, Fin c lo → lo.length = A.h.length + 2 → jumpTo Q { A with h := (lo ++ mid).set (A.h.length + 1) .dead, df := .collected A.h.length :: A.df } c) : @W ⟨P, H, .rangeFunc g ps assign body, Q⟩ A := by
  obtain ⟨gf, first, cap, rfl, hi⟩ := hit
  have hoR : ∃ oR, oR = AObj.loop A.n A.tmps ps assign body .ready none := ⟨_, rfl⟩
  obtain ⟨oR, hR⟩ := hoR
  refine W_range (f := gf) (args := first.map .p ++ [.ref .yl (A.h.length + 1)] ++ cap.map .p)
    (R := fun r h => r = .ret (.p (.tuple [])) ∧ ∃ lo mid, h = lo ++ mid ∧ lo.length = A.h.length + 2 ∧ (Inv oR l.length lo ∨ ∃ c, Fin c lo ∧ lo[A.h.length + 1]? = some (.loop A.n A.tmps ps assign body .done (some c))))
    hrc (by rw [hg]; rfl) ?_ (fun v h hr => ?_) fun v h hr => (by cases hr.1)
  · rw [← hR]
    have hl2 : (A.h ++ [.dblock, oR]).length = A.h.length + 2 := by simp
    have key := hi (A.h.length + 1) (Inv oR) (fun lo => ∃ c, Fin c lo ∧ lo[A.h.length + 1]? = some (.loop A.n A.tmps ps assign body .done (some c))) (A.h ++ [.dblock, oR]) (by simp) (fun k xs lo mid j hv hI hlo hj => ?_) (h0 oR)
    · rw [hl2] at key
      exact key
    rw [hl2] at hlo ⊢
    have hat' := hat _ _ _ hI
    have hat2 : (lo ++ mid)[A.h.length + 1]? = some oR := by rw [List.getElem?_append_left (by omega)]; exact hat'
    rw [hR] at hat2
    refine hyld_of_wp hD (H := H) hat2 hps (by simpa using hp1) hoka hokb ?_
    have := hround oR (.loop A.n A.tmps ps assign body .busy none) (fun j => .loop A.n A.tmps ps assign body .done (some j)) k xs lo mid j hv hI hlo hj
    refine wp_mono assign (fun e B hB => ?_) this
    cases e with
    | normal =>
      obtain ⟨b1, b2, b3⟩ := hB
      rw [hR] at b2
      refine ⟨b1, b2, wp_mono body (fun e C hC => ?_) b3⟩
      cases e with
      | normal =>
        obtain ⟨c1, c2, c3⟩ := hC
        refine ⟨c1, ⟨_, _, c2⟩, ?_⟩
        rw [← hR]
        obtain ⟨lo', ext, d1, d2, d3⟩ := c3
        refine ⟨lo', ext, d1, d2, ?_⟩
        rcases d3 with d3 | ⟨d3, _⟩
        · exact .inl d3
        · cases d3
      | exit id =>
        obtain ⟨c1, c2, c3⟩ := hC
        refine ⟨c1, ⟨_, _, c2⟩, ?_⟩
        obtain ⟨lo', ext, d1, d2, d3⟩ := c3
        refine ⟨lo', ext, d1, d2, ?_⟩
        rcases d3 with ⟨d3, _⟩ | ⟨d3, c, f1, f2⟩
        · cases d3
        · exact .inr ⟨rfl, c, f1, f2⟩
      | ret =>
        obtain ⟨c1, c2, c3⟩ := hC
        refine ⟨c1, ⟨_, _, c2⟩, ?_⟩
        obtain ⟨lo', ext, d1, d2, d3⟩ := c3
        refine ⟨lo', ext, d1, d2, ?_⟩
        rcases d3 with ⟨d3, _⟩ | ⟨d3, c, f1, f2⟩
        · cases d3
        · exact .inr ⟨rfl, c, f1, f2⟩
      | panic v => exact hC
    | exit id => exact hB
    | ret => exact hB
    | panic v => exact hB
  · obtain ⟨hr, lo, mid, rfl, hlo, hI⟩ := hr
    rcases hI with hI | ⟨c, f1, f2⟩
    · have hat' : (lo ++ mid)[A.h.length + 1]? = some oR := by rw [List.getElem?_append_left (by omega)]; exact hat _ _ _ hI
      rw [hR] at hat'
      rw [hat']
      exact ⟨by simp, hend _ _ _ hI hlo⟩
    · have hat' : (lo ++ mid)[A.h.length + 1]? = some (.loop A.n A.tmps ps assign body .done (some c)) := by rw [List.getElem?_append_left (by omega)]; exact f2
      rw [hat']
      have := hfin c lo mid f1 hlo
      refine ⟨by simp, ?_⟩
      cases c <;> first | exact this.elim | exact this

theorem arr_toList (l : List Tmp) : (List.toArray l).toList = l := rfl
end Abs
end Go.Proofs.Ythekmbikolpmlaa
