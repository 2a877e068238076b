/-
  LAWS: what a code comes to, asked for less; loops unrolled.
-/
import Derived.Test.YtdgmmijimclooaaAbsWeak
namespace Go.Proofs.Ytdgmmijimclooaa
namespace Abs
variable {P : Program} {H : Hints} {ops : Array Oper} {Q Q' : Ex → AAct → Prop}

theorem orK_mono2 {A : AAct} {dst : Option Tmp} {K K' : AAct → Prop} {r : OR} (h : ∀ B, K B → K' B) (hq : ∀ e B, Q e B → Q' e B) (k : orK P A dst K Q r) : orK P A dst K' Q' r := by
  cases r with
  | call f args =>
    intro M0 m w cargs hS ha
    obtain ⟨h1, h2⟩ := k M0 m w cargs hS ha
    refine ⟨h1, h2.mono fun _ _ hb => ?_⟩
    obtain ⟨r, h', m', hR, rest⟩ := hb
    exact ⟨r, h', m', by cases r <;> first | exact h _ hR | exact hq _ _ hR, rest⟩
  | yld l args =>
    refine ⟨k.1, fun M0 m w cargs bl hS ha hbl => ?_⟩
    obtain ⟨f, tmps, as, bd, h1, h2⟩ := k.2 M0 m w cargs bl hS ha hbl
    refine ⟨f, tmps, as, bd, h1, fun c cs => ?_⟩
    obtain ⟨e, w', ⟨r, h', m', hR, rest⟩, hs⟩ := h2 c cs
    exact ⟨e, w', ⟨r, h', m', by cases r <;> first | exact h _ hR | exact hq _ _ hR, rest⟩, hs⟩
  | panic v => exact hq _ _ k
  | val v h' => exact orK_mono (Q := Q') h k
  | skip h' => exact orK_mono (Q := Q') h k
  | dfr d => exact orK_mono (Q := Q') h k
  | recover => exact orK_mono (Q := Q') h k
  | stuck => exact k

theorem wantK_mono {X Y X' Y' : Unit → Prop} {o : Option Bool} (h1 : X () → X' ()) (h2 : Y () → Y' ()) (k : wantK X Y o) : wantK X' Y' o := by
  cases o with
  | none => exact k
  | some b => exact ⟨fun e => h1 (k.1 e), fun e => h2 (k.2 e)⟩

theorem wpOps_mono (hq : ∀ e B, Q e B → Q' e B) : ∀ (l : List Oper) {A : AAct}, wpOps P H ops Q l A → wpOps P H ops Q' l A
  | [], _, k => hq _ _ k
  | o :: rest, A, k => by
    rw [wpOps] at k ⊢
    exact wantK_mono (fun k => orK_mono2 (fun B hB => wpOps_mono hq rest hB) hq k) (fun k => wpOps_mono hq rest k) k

theorem allK_mono {h : Heap} {K K' : AV → Heap → Prop} {r : OR} (hk : ∀ v h, K v h → K' v h) (k : allK h K r) : allK h K' r := by
  cases r <;> first | exact k.elim | exact ⟨k.1, hk _ _ k.2⟩
theorem quK_mono {h : Heap} {K K' : AV → Prop} {r : OR} (hk : ∀ v, K v → K' v) (k : quK P h K r) : quK P h K' r := by
  obtain ⟨v, h1, h2⟩ := quK_iff.1 k
  exact quK_iff.2 ⟨v, h1, hk v h2⟩
theorem slotK_mono {hs h : Heap} {j sz : Nat} {K K' : AV → Heap → Prop} {z : Option AV} (hk : ∀ v h, K v h → K' v h) (k : slotK hs h j sz K z) : slotK hs h j sz K' z := by
  cases z with
  | none => exact k
  | some z => exact ⟨k.1, k.2.1, k.2.2.1, hk _ _ k.2.2.2⟩
theorem skipK_mono {K K' : Heap → Prop} {r : OR} (hk : ∀ h, K h → K' h) (k : skipK K r) : skipK K' r := by
  cases r <;> first | exact k.elim | exact hk _ k
theorem stoK_mono {hs h : Heap} {e : Operand → AV} {K K' : Heap → Prop} {o : Op} (hk : ∀ h, K h → K' h) (k : stoK P hs h e K o) : stoK P hs h e K' o := by
  cases o with
  | store T a x =>
    have k1 : (match e a with | .ptr id ver i o => deadAt hs id = true ∧ skipK K (aStore P T (.ptr id ver i o) (e x) h) | _ => False) := k
    show (match e a with | .ptr id ver i o => deadAt hs id = true ∧ skipK K' (aStore P T (.ptr id ver i o) (e x) h) | _ => False)
    generalize e a = z at k1 ⊢
    cases z <;> first | exact k1.elim | exact ⟨k1.1, skipK_mono hk k1.2⟩
  | _ => exact k.elim
theorem nopK_mono {h : Heap} {e : Operand → AV} {K K' : Prop} {o : Op} (hk : K → K') (k : nopK P h e K o) : nopK P h e K' o := by
  cases o <;> first | exact k.elim | exact ⟨k.1, hk k.2⟩
theorem wpDraw_mono (hq : ∀ e B, Q e B → Q' e B) : ∀ (l : List Oper) {hs : Heap} {A : AAct}, wpDraw P H ops Q l hs A → wpDraw P H ops Q' l hs A
  | [], _, _, k => hq _ _ k
  | o :: rest, hs, A, k => by
    rw [wpDraw] at k ⊢
    refine wantK_mono (fun k => ?_) (fun k => wpDraw_mono hq rest k) k
    cases hc : dcls H o <;> rw [hc] at k
    · exact orK_mono2 (K := fun B => wpDraw P H ops Q rest B.h B) (K' := fun B => wpDraw P H ops Q' rest B.h B) (fun B hB => wpDraw_mono hq rest hB) hq k
    · exact allK_mono (fun v h hh => wpDraw_mono hq rest hh) k
    · exact quK_mono (fun v hh => wpDraw_mono hq rest hh) k
    · exact quK_mono (fun v hh => wpDraw_mono hq rest hh) k
    · exact slotK_mono (fun v h hh => wpDraw_mono hq rest hh) k
    · exact stoK_mono (fun h hh => wpDraw_mono hq rest hh) k
    · exact nopK_mono (fun hh => wpDraw_mono hq rest hh) k

theorem seqK_mono {K K' : AAct → Prop} (h : ∀ B, K B → K' B) (hq : ∀ e B, Q e B → Q' e B) : ∀ e B, seqK K Q e B → seqK K' Q' e B
  | .normal, _, k => h _ k
  | .exit _, _, k => hq _ _ k
  | .ret, _, k => hq _ _ k
  | .panic _, _, k => hq _ _ k
theorem blockK_mono {id : Nat} (hq : ∀ e B, Q e B → Q' e B) : ∀ e B, blockK id Q e B → blockK id Q' e B
  | .normal, _, k => hq _ _ k
  | .exit j, B, k => by
    have k' : if j = id then Q .normal B else Q (.exit j) B := k
    show if j = id then Q' .normal B else Q' (.exit j) B
    by_cases h : j = id
    · rw [if_pos h] at k' ⊢; exact hq _ _ k'
    · rw [if_neg h] at k' ⊢; exact hq _ _ k'
  | .ret, _, k => hq _ _ k
  | .panic _, _, k => hq _ _ k

theorem loopEnd_mono (hq : ∀ e B, Q e B → Q' e B) {A : AAct} {l : Nat} {o : Option AObj} (k : loopEnd Q A l o) : loopEnd Q' A l o := by
  unfold loopEnd at k ⊢
  split at k
  · refine ⟨k.1, ?_⟩
    have := k.2
    unfold jumpK at this ⊢
    split at this <;> first | exact this.elim | exact hq _ _ this
  · exact k.elim

theorem wp_mono : ∀ (c : Code) {Q Q' : Ex → AAct → Prop} {A : AAct}, (∀ e B, Q e B → Q' e B) → wp P H c Q A → wp P H c Q' A := by
  intro c
  induction c with
  | skip => intro Q Q' A hq k; exact hq _ _ k
  | region id ops draw =>
    intro Q Q' A hq k
    cases draw with
    | false => exact wpOps_mono hq _ k
    | true => exact wpDraw_mono hq _ k
  | seq x y ihx ihy => intro Q Q' A hq k; exact ihx (seqK_mono (fun B hB => ihy hq hB) hq) k
  | cond c x y ihx ihy =>
    intro Q Q' A hq k
    unfold wp condK at k ⊢
    split at k
    · exact ⟨fun e => ihx hq (k.1 e), fun e => ihy hq (k.2 e)⟩
    · exact k.elim
  | block id x ihx => intro Q Q' A hq k; exact ihx (blockK_mono hq) k
  | loop x ihx =>
    intro Q Q' A hq k
    exact fun X hX => k X fun B hB => hX B (ihx (seqK_mono (fun B hB => hB) hq) hB)
  | rangeFunc g ps assign body _ _ =>
    intro Q Q' A hq k
    have gen : ∀ {X Y : Prop} {c : Rc}, (X → Y) → dfrK X c → dfrK Y c := fun hx hc => by
      rename_i c
      cases c <;> first | exact False.elim hc | exact hx hc
    refine gen (fun k => ?_) k
    unfold rangeK at k ⊢
    split at k
    · rename_i gf args hg
      intro M0 m w cargs hS ha
      obtain ⟨h1, h2⟩ := k M0 m w cargs hS ha
      refine ⟨h1, h2.mono fun _ _ hb => ?_⟩
      obtain ⟨r, h', m', hR, rest⟩ := hb
      refine ⟨r, h', m', ?_, rest⟩
      cases r with
      | ret v => exact loopEnd_mono hq hR
      | panic v => exact hq _ _ hR
    · exact k.elim
  | exit id => intro Q Q' A hq k; exact hq _ _ k
  | ret => intro Q Q' A hq k; exact hq _ _ k
  | _ => intro Q Q' A hq k; exact k.elim

/-- ONE ROUND OF A LOOP, AND THE REST -/
theorem wp_loop_unroll {x : Code} {A : AAct} (k : wp P H x (seqK (fun B => wp P H (.loop x) Q B) Q) A) : wp P H (.loop x) Q A := by
  intro X hX
  refine ⟨A, Weak.refl A, hX A (wp_mono x (seqK_mono (fun B hB => ?_) fun _ _ h => h) k)⟩
  exact hB X hX

/-- A LOOP BY ITS STATES -/
theorem wp_loop_inv {x : Code} {A : AAct} {σ : Type} (I : σ → AAct) (μ : σ → Nat) (s0 : σ) (h0 : Weak P A (I s0)) (hs : ∀ s, wp P H x (seqK (fun B => ∃ s', μ s' < μ s ∧ Weak P B (I s')) Q) (I s)) : wp P H (.loop x) Q A := by
  intro X hX
  have key : ∀ (j : Nat) (s : σ), μ s = j → X (I s) := by
    intro j
    induction j using Nat.strongRecOn with
    | _ j ih =>
      intro s hj
      refine hX _ (wp_mono x (seqK_mono (fun B hB => ?_) fun _ _ h => h) (hs s))
      obtain ⟨s', h1, h2⟩ := hB
      exact ⟨_, h2, ih (μ s') (hj ▸ h1) s' rfl⟩
  exact ⟨_, h0, key _ s0 rfl⟩

/-- the temporaries that are kept at the head of a loop -/
def keepT : List (Nat × AV) → Nat → AV
  | [], _ => .undef
  | (k, v) :: l, t => if t = k then v else keepT l t
theorem keepT_nil (t : Nat) : keepT [] t = .undef := rfl
theorem keepT_cons (k : Nat) (v : AV) (l : List (Nat × AV)) (t : Nat) : keepT ((k, v) :: l) t = if t = k then v else keepT l t := rfl
theorem keepT_at : ∀ (l : List (Nat × AV)) (t : Nat), keepT l t = .undef ∨ (t, keepT l t) ∈ l
  | [], _ => .inl rfl
  | (k, v) :: l, t => by
    rw [keepT_cons]
    by_cases h : t = k
    · subst h; rw [if_pos rfl]; exact .inr (by simp)
    · rw [if_neg h]
      rcases keepT_at l t with h1 | h1
      · exact .inl h1
      · exact .inr (List.mem_cons_of_mem _ h1)
theorem weak_keep {A : AAct} (l : List (Nat × AV)) (h : ∀ p, p ∈ l → A.tmps p.1 = p.2) : Weak P A { A with tmps := keepT l } :=
  weak_tmps fun t => by
    rcases keepT_at l t with h1 | h1
    · exact .inr h1
    · exact .inl (h _ h1).symm
/-- at the head of a loop: the temporaries that are kept, and the first objects -/
theorem weak_head {A : AAct} (l : List (Nat × AV)) (k : Nat) (h : ∀ p, p ∈ l → A.tmps p.1 = p.2 ∧ below k p.2) (h1 : A.bs ≤ k) (h2 : k ≤ A.h.length)
    (ho : ∀ (id : Nat) (o : AObj), id < k → A.h[id]? = some o → objBelow k o) (hd : A.df = []) : Weak P A { A with tmps := keepT l, h := A.h.take k } :=
  weak_cut k h1 h2 (fun t => by
    rcases keepT_at l t with h3 | h3
    · exact .inr h3
    · have := h _ h3
      exact .inl ⟨this.1.symm, by rw [this.1]; exact this.2⟩) ho (by rw [hd]; simp)

/-- back at the head -/
def headK {σ : Type} (P : Program) (V : σ → Prop) (I : σ → AAct) (μ : σ → Nat) (s : σ) : AAct → Prop := fun B => ∃ s', V s' ∧ μ s' < μ s ∧ Weak P B (I s')
theorem W_loop {σ : Type} {x : Code} {A : AAct} (V : σ → Prop) (I : σ → AAct) (μ : σ → Nat) (s0 : σ) (hv : V s0) (h0 : Weak P A (I s0)) (hs : ∀ s, V s → @W ⟨P, H, x, seqK (headK P V I μ s) Q⟩ (I s)) : @W ⟨P, H, .loop x, Q⟩ A := by
  refine wp_loop_inv (σ := { s : σ // V s }) (fun s => I s.1) (fun s => μ s.1) ⟨s0, hv⟩ h0 fun s => ?_
  refine wp_mono x (seqK_mono (fun B hB => ?_) fun _ _ h => h) (hs s.1 s.2)
  obtain ⟨s', h1, h2, h3⟩ := hB
  exact ⟨⟨s', h1⟩, h2, h3⟩
theorem WQ_head {σ : Type} {V : σ → Prop} {I : σ → AAct} {μ : σ → Nat} {s : σ} {A : AAct} (s' : σ) (h1 : V s') (h2 : μ s' < μ s) (h3 : Weak P A (I s')) : @WQ ⟨seqK (headK P V I μ s) Q⟩ .normal A := ⟨s', h1, h2, h3⟩
theorem W_unroll {x : Code} {A : AAct} (k : @W ⟨P, H, x, seqK (wp P H (.loop x) Q) Q⟩ A) : @W ⟨P, H, .loop x, Q⟩ A := wp_loop_unroll k

theorem getD0 (a : TypeId) (l : List TypeId) : (List.toArray (a :: l)).getD 0 0 = a := rfl
theorem getD1 (a b : TypeId) (l : List TypeId) : (List.toArray (a :: b :: l)).getD 1 0 = b := rfl

end Abs
end Go.Proofs.Ytdgmmijimclooaa
