/-
  LAWS: iterators with memory of their own that yield immutable values. No conditions but those in the theorems' heads.
-/
import Derived.Test.YtdellinghbppgaaGreatDoorAbsBld
namespace Go.Proofs.YtdellinghbppgaaGreatDoor
namespace Abs
variable {P : Program} {H : Hints} {Q : Cont}

def IterX (P : Program) (fv : PV) (n : Nat) (l : List (List PV)) : Prop :=
  (∀ a, a ∈ l → a.length = n) ∧ ∃ (g : FuncId) (first cap : List PV), fv = .func (.func g) first cap ∧ ∀ (id : Nat) (Inv : Nat → Heap → Prop) (Fin : Heap → Prop) (h0 : Heap), id < h0.length →
    (∀ (k : Nat) (xs : List PV) (lo mid : Heap), l[k]? = some xs → Inv k lo → lo.length = h0.length →
      HYld P id (xs.map .p) (lo ++ mid) (fun r h' => ∃ lo' ext, h' = lo' ++ mid ++ ext ∧ lo'.length = h0.length ∧
        ((r = .ret (.p (.bool true)) ∧ Inv (k + 1) lo') ∨ (r = .ret (.p (.bool false)) ∧ Fin lo')))) →
    Inv 0 h0 → HCall P g (first.map .p ++ [.ref .yl id] ++ cap.map .p) h0 (fun r h' => r = .ret (.p (.tuple [])) ∧ ∃ lo mid, h' = lo ++ mid ∧ lo.length = h0.length ∧ (Inv l.length lo ∨ Fin lo))

theorem W_iterX {ps : Array Tmp} {assign body : Code} {g : Operand} {A : AAct} {fv : PV} {l : List (List PV)} (Inv : AObj → Nat → Heap → Prop) (Fin : Code → Heap → Prop)
    (hrc : A.rc = .no) (hg : A.eval g = .p fv) (hit : IterX P fv ps.size l) (hD : DrawLaw P) (hps : paramsOk A.n ps = true) (hoka : okCode H A.n assign = true) (hokb : okCode H A.n body = true)
    (hat : ∀ o k h, Inv o k h → h[A.h.length + 1]? = some o) (h0 : ∀ o, Inv o 0 (A.h ++ [.dblock, o]))
    (hround : ∀ (oR oB : AObj) (oD : Code → AObj) (k : Nat) (xs : List PV) (lo mid : Heap), l[k]? = some xs → Inv oR k lo → lo.length = A.h.length + 2 →
      @W ⟨P, H, assign, assignO oR oB (A.h.length + 1) (lo ++ mid).length (fun B => wp P H body (roundO oB oR oD (A.h.length + 1) (lo ++ mid).length
        (fun r h' => ∃ lo' ext, h' = lo' ++ mid ++ ext ∧ lo'.length = A.h.length + 2 ∧ ((r = .ret (.p (.bool true)) ∧ Inv oR (k + 1) lo') ∨ (r = .ret (.p (.bool false)) ∧ ∃ c, Fin c lo' ∧ lo'[A.h.length + 1]? = some (oD c))))) B)⟩
        { n := A.n, bs := (lo ++ mid).length, rc := .rnd, tmps := putParams A.tmps ps.toList (xs.map .p), h := lo ++ mid, df := [] })
    (hend : ∀ o lo mid, Inv o l.length lo → lo.length = A.h.length + 2 → @WQ ⟨Q⟩ .normal { A with h := (lo ++ mid).set (A.h.length + 1) .dead, df := .collected A.h.length :: A.df })
    (hfin : ∀ c lo mid, Fin c lo → lo.length = A.h.length + 2 → jumpTo Q { A with h := (lo ++ mid).set (A.h.length + 1) .dead, df := .collected A.h.length :: A.df } c) : @W ⟨P, H, .rangeFunc g ps assign body, Q⟩ A := by
  obtain ⟨hn, gf, first, cap, rfl, hi⟩ := hit
  have hoR : ∃ oR, oR = AObj.loop A.n A.tmps ps assign body .ready none := ⟨_, rfl⟩
  obtain ⟨oR, hR⟩ := hoR
  refine W_range (f := gf) (args := first.map .p ++ [.ref .yl (A.h.length + 1)] ++ cap.map .p)
    (R := fun r h => r = .ret (.p (.tuple [])) ∧ ∃ lo mid, h = lo ++ mid ∧ lo.length = A.h.length + 2 ∧ (Inv oR l.length lo ∨ ∃ c, Fin c lo ∧ lo[A.h.length + 1]? = some (.loop A.n A.tmps ps assign body .done (some c))))
    hrc (by rw [hg]; rfl) ?_ (fun v h hr => ?_) fun v h hr => (by cases hr.1)
  · rw [← hR]
    have hl2 : (A.h ++ [.dblock, oR]).length = A.h.length + 2 := by simp
    have key := hi (A.h.length + 1) (Inv oR) (fun lo => ∃ c, Fin c lo ∧ lo[A.h.length + 1]? = some (.loop A.n A.tmps ps assign body .done (some c))) (A.h ++ [.dblock, oR]) (by simp) (fun k xs lo mid hv hI hlo => ?_) (h0 oR)
    · rw [hl2] at key
      exact key
    rw [hl2] at hlo ⊢
    have hat' := hat _ _ _ hI
    have hat2 : (lo ++ mid)[A.h.length + 1]? = some oR := by rw [List.getElem?_append_left (by omega)]; exact hat'
    rw [hR] at hat2
    refine hyld_of_wp hD (H := H) hat2 hps (by rw [List.length_map]; exact (hn xs (List.mem_of_getElem? hv)).symm) hoka hokb ?_
    have := hround oR (.loop A.n A.tmps ps assign body .busy none) (fun j => .loop A.n A.tmps ps assign body .done (some j)) k xs lo mid hv hI hlo
    refine wp_mono assign (fun e B hB => ?_) this
    cases e with
    | normal =>
      obtain ⟨b1, b2, b3⟩ := hB
      rw [hR] at b2
      refine ⟨b1, b2, wp_mono body (fun e C hC => ?_) b3⟩
      cases e with
      | normal =>
        obtain ⟨c1, c2, c3⟩ := hC
        refine ⟨c1, ⟨_, _, c2⟩, ?_⟩
        rw [← hR]
        obtain ⟨lo', ext, d1, d2, d3⟩ := c3
        refine ⟨lo', ext, d1, d2, ?_⟩
        rcases d3 with d3 | ⟨d3, _⟩
        · exact .inl d3
        · cases d3
      | exit id =>
        obtain ⟨c1, c2, c3⟩ := hC
        refine ⟨c1, ⟨_, _, c2⟩, ?_⟩
        obtain ⟨lo', ext, d1, d2, d3⟩ := c3
        refine ⟨lo', ext, d1, d2, ?_⟩
        rcases d3 with ⟨d3, _⟩ | ⟨d3, c, f1, f2⟩
        · cases d3
        · exact .inr ⟨rfl, c, f1, f2⟩
      | ret =>
        obtain ⟨c1, c2, c3⟩ := hC
        refine ⟨c1, ⟨_, _, c2⟩, ?_⟩
        obtain ⟨lo', ext, d1, d2, d3⟩ := c3
        refine ⟨lo', ext, d1, d2, ?_⟩
        rcases d3 with ⟨d3, _⟩ | ⟨d3, c, f1, f2⟩
        · cases d3
        · exact .inr ⟨rfl, c, f1, f2⟩
      | panic v =>
        obtain ⟨_, _, c3⟩ := hC
        obtain ⟨lo', ext, d1, d2, d3⟩ := c3
        rcases d3 with ⟨d3, _⟩ | ⟨d3, _⟩ <;> cases d3
    | exit id => exact hB
    | ret => exact hB
    | panic v => exact hB
  · obtain ⟨hr, lo, mid, rfl, hlo, hI⟩ := hr
    rcases hI with hI | ⟨c, f1, f2⟩
    · have hat' : (lo ++ mid)[A.h.length + 1]? = some oR := by rw [List.getElem?_append_left (by omega)]; exact hat _ _ _ hI
      rw [hR] at hat'
      rw [hat']
      exact ⟨by simp, hend _ _ _ hI hlo⟩
    · have hat' : (lo ++ mid)[A.h.length + 1]? = some (.loop A.n A.tmps ps assign body .done (some c)) := by rw [List.getElem?_append_left (by omega)]; exact f2
      rw [hat']
      have := hfin c lo mid f1 hlo
      refine ⟨by simp, ?_⟩
      cases c <;> first | exact this.elim | exact this


theorem hap_gg {lo : Heap} {n0 : Nat} (h : lo.length = n0) (t : Heap) (j : Nat) : (lo ++ t)[n0 + j]? = t[j]? := by rw [List.getElem?_append_right (by omega)]; congr 1; omega
theorem hap_g0 {lo : Heap} {n0 : Nat} (h : lo.length = n0) (t : Heap) : (lo ++ t)[n0]? = t[0]? := hap_gg h t 0
theorem hap_ss {lo : Heap} {n0 : Nat} (h : lo.length = n0) (t : Heap) (j : Nat) (x : AObj) : (lo ++ t).set (n0 + j) x = lo ++ t.set j x := by
  rw [List.set_append_right _ _ (by omega)]; congr 2; omega
theorem hap_s0 {lo : Heap} {n0 : Nat} (h : lo.length = n0) (t : Heap) (x : AObj) : (lo ++ t).set n0 x = lo ++ t.set 0 x := hap_ss h t 0 x
end Abs
end Go.Proofs.YtdellinghbppgaaGreatDoor
