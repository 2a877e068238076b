/-
  LAWS: regions of any order: what the order of the text comes to, every order comes to.
-/
import Derived.Test.YthekmbikolpmlaaAbsDraw
namespace Go.Proofs.Ythekmbikolpmlaa
namespace Abs
variable {P : Program} {H : Hints} {ops : Array Oper} {Q : Ex → AAct → Prop}

/-! ### one operation -/
def stepD (P : Program) (H : Hints) (ops : Array Oper) (Q : Ex → AAct → Prop) (o : Oper) (K : Heap → AAct → Prop) (hs : Heap) (A : AAct) : Prop :=
  wantK (fun _ => dcK
      (fun _ => orK P A o.dst (fun B => K B.h B) Q (aOp P (mutOf H) o A.eval A.h))
      (fun _ => allK A.h (fun v h => K hs (A.put o.dst v h)) (aOp P (mutOf H) o A.eval A.h))
      (fun _ => quK P A.h (fun v => K hs (A.put o.dst v A.h)) (aOp P (mutOf H) o A.eval A.h))
      (fun _ => quK P hs (fun v => K hs (A.put o.dst v A.h)) (aOp P (mutOf H) o A.eval hs))
      (fun j sz => slotK hs A.h j sz (fun v h => K hs (A.put o.dst v h)) (slotVal P A.eval o.op))
      (fun _ => stoK P hs A.h A.eval (fun h => K hs (A.put o.dst (.p (.tuple [])) h)) o.op)
      (fun _ => nopK P A.h A.eval (K hs (A.put o.dst (.p (.tuple [])) A.h)) o.op)
      (dcls H o))
    (fun _ => K hs (A.put o.dst (.p (.tuple [])) A.h)) (aWanted ops A o)
theorem wpDraw_cons (o : Oper) (rest : List Oper) (hs : Heap) (A : AAct) : wpDraw P H ops Q (o :: rest) hs A = stepD P H ops Q o (wpDraw P H ops Q rest) hs A := by
  rw [wpDraw]; rfl

/-- what an operation does to the heap -/
inductive HE where
  | app (t : Heap)
  | set (id : Nat) (o : AObj)
def HE.ap : HE → Heap → Heap
  | .app t, h => h ++ t
  | .set id o, h => h.set id o

def Qv (P : Program) (h : Heap) (r : OR) (v : AV) : Prop :=
  r = .val v h ∨ ∃ f args, r = .call f args ∧ ∀ h', SubH h h' → HCall P f args h' (fun r h'' => r = .ret v ∧ h'' = h')
def SlotAt (P : Program) (H : Hints) (o : Oper) (hs : Heap) (v : AV) (E : HE) (A : AAct) : Prop :=
  ∃ j sz z, dcls H o = .slot j sz ∧ slotVal P A.eval o.op = some z ∧ z.cells.map (·.length) = some sz ∧ deadAt hs (hs.length - 1 - j) = true ∧ A.h[hs.length - 1 - j]? = some (.row sz []) ∧
    v = .ptr (hs.length - 1 - j) 1 0 0 ∧ E = .set (hs.length - 1 - j) (.row sz [z])
def StoAt (P : Program) (H : Hints) (o : Oper) (hs : Heap) (v : AV) (E : HE) (A : AAct) : Prop :=
  dcls H o = .sto ∧ ∃ T a x id ver i k ob, o.op = .store T a x ∧ A.eval a = .ptr id ver i k ∧ deadAt hs id = true ∧ aStore P T (.ptr id ver i k) (A.eval x) A.h = .skip (A.h.set id ob) ∧ v = .p (.tuple []) ∧ E = .set id ob
def NopAt (P : Program) (H : Hints) (o : Oper) (v : AV) (E : HE) (A : AAct) : Prop :=
  dcls H o = .nop ∧ v = .p (.tuple []) ∧ E = .app [] ∧ ∃ T a x, o.op = .store T a x ∧ aStore P T (A.eval a) (A.eval x) A.h = .skip A.h
/-- a step with one outcome -/
def QS (P : Program) (H : Hints) (ops : Array Oper) (o : Oper) (hs : Heap) (v : AV) (E : HE) (A : AAct) : Prop :=
  (aWanted ops A o = some false ∧ v = .p (.tuple []) ∧ E = .app []) ∨
  (aWanted ops A o = some true ∧
    ((dcls H o = .quiet ∧ E = .app [] ∧ Qv P A.h (aOp P (mutOf H) o A.eval A.h) v) ∨
     (dcls H o = .low ∧ E = .app [] ∧ Qv P hs (aOp P (mutOf H) o A.eval hs) v) ∨
     (dcls H o = .alloc ∧ ∃ t, E = .app t ∧ aOp P (mutOf H) o A.eval A.h = .val v (A.h ++ t)) ∨
     SlotAt P H o hs v E A ∨ StoAt P H o hs v E A ∨ NopAt P H o v E A))

theorem aStore_set {T : TypeId} {id ver i k : Nat} {y : AV} {h h' : Heap} (e : aStore P T (.ptr id ver i k) y h = .skip h') : ∃ ob, h' = h.set id ob := by
  unfold aStore at e
  split at e
  · rename_i n hx _
    split at e
    · split at e
      · split at e
        · split at e
          · cases hx; cases e; exact ⟨_, rfl⟩
          · cases e
        · cases e
      · cases e
    · cases e
  · cases e

theorem quK_iff {h : Heap} {K : AV → Prop} {r : OR} : quK P h K r ↔ ∃ v, Qv P h r v ∧ K v := by
  constructor
  · intro k
    cases r <;> first | exact k.elim | skip
    case val v h' => obtain ⟨rfl, k⟩ := k; exact ⟨v, .inl rfl, k⟩
    case call f args => obtain ⟨v, k1, k2⟩ := k; exact ⟨v, .inr ⟨f, args, rfl, k1⟩, k2⟩
  · rintro ⟨v, rfl | ⟨f, args, rfl, k1⟩, k2⟩
    · exact ⟨rfl, k2⟩
    · exact ⟨v, k1, k2⟩

theorem stepD_of_qs {o : Oper} {K : Heap → AAct → Prop} {hs : Heap} {A : AAct} {v : AV} {E : HE} (q : QS P H ops o hs v E A) (k : K hs (A.put o.dst v (E.ap A.h))) : stepD P H ops Q o K hs A := by
  unfold stepD
  rcases q with ⟨hw, rfl, rfl⟩ | ⟨hw, q⟩
  · rw [hw]
    refine ⟨fun h => (by cases h), fun _ => ?_⟩
    simpa [HE.ap] using k
  · rw [hw]
    refine ⟨fun _ => ?_, fun h => (by cases h)⟩
    rcases q with ⟨hc, rfl, q⟩ | ⟨hc, rfl, q⟩ | ⟨hc, t, rfl, q⟩ | ⟨j, sz, z, hc, h1, h2, h3, h4, rfl, rfl⟩ | ⟨hc, T, a, x, id, ver, i, kk, ob, h1, h2, h3, h4, rfl, rfl⟩ | ⟨hc, rfl, rfl, T, a, x, h1, h2⟩
    · rw [hc]; exact quK_iff.2 ⟨v, q, by simpa [HE.ap] using k⟩
    · rw [hc]; exact quK_iff.2 ⟨v, q, by simpa [HE.ap] using k⟩
    · rw [hc, q]; exact ⟨⟨t, rfl⟩, k⟩
    · rw [hc]
      refine (show slotK hs A.h j sz (fun v h => K hs (A.put o.dst v h)) (slotVal P A.eval o.op) from ?_)
      rw [h1]
      exact ⟨h2, h3, h4, k⟩
    · rw [hc]
      refine (show stoK P hs A.h A.eval (fun h => K hs (A.put o.dst (.p (.tuple [])) h)) o.op from ?_)
      rw [h1]
      show (match A.eval a with | .ptr id ver i o => deadAt hs id = true ∧ skipK _ (aStore P T (.ptr id ver i o) (A.eval x) A.h) | _ => False)
      rw [h2]
      refine ⟨h3, ?_⟩
      rw [h4]
      exact k
    · rw [hc]
      refine (show nopK P A.h A.eval (K hs (A.put o.dst (.p (.tuple [])) A.h)) o.op from ?_)
      rw [h1]
      exact ⟨h2, by simpa [HE.ap] using k⟩
theorem qs_of_stepD {o : Oper} {K : Heap → AAct → Prop} {hs : Heap} {A : AAct} (hb : dcls H o ≠ .bar ∨ aWanted ops A o = some false) (k : stepD P H ops Q o K hs A) :
    ∃ v E, QS P H ops o hs v E A ∧ K hs (A.put o.dst v (E.ap A.h)) := by
  unfold stepD at k
  cases hw : aWanted ops A o with
  | none => rw [hw] at k; exact k.elim
  | some b =>
    rw [hw] at k
    cases b with
    | false => exact ⟨_, .app [], .inl ⟨hw, rfl, rfl⟩, by simpa [HE.ap] using k.2 rfl⟩
    | true =>
      have k1 := k.1 rfl
      cases hc : dcls H o with
      | bar =>
        rcases hb with hb | hb
        · exact absurd hc hb
        · rw [hw] at hb; cases hb
      | alloc =>
        rw [hc] at k1
        cases hr : aOp P (mutOf H) o A.eval A.h <;> rw [hr] at k1 <;> first | exact k1.elim | skip
        rename_i v h'
        obtain ⟨⟨t, rfl⟩, k2⟩ := k1
        exact ⟨v, .app t, .inr ⟨hw, .inr (.inr (.inl ⟨hc, t, rfl, hr⟩))⟩, k2⟩
      | quiet =>
        rw [hc] at k1
        obtain ⟨v, q, k2⟩ := quK_iff.1 k1
        exact ⟨v, .app [], .inr ⟨hw, .inl ⟨hc, rfl, q⟩⟩, by simpa [HE.ap] using k2⟩
      | low =>
        rw [hc] at k1
        obtain ⟨v, q, k2⟩ := quK_iff.1 k1
        exact ⟨v, .app [], .inr ⟨hw, .inr (.inl ⟨hc, rfl, q⟩)⟩, by simpa [HE.ap] using k2⟩
      | slot j sz =>
        rw [hc] at k1
        have k2 : slotK hs A.h j sz (fun v h => K hs (A.put o.dst v h)) (slotVal P A.eval o.op) := k1
        cases hz : slotVal P A.eval o.op with
        | none => rw [hz] at k2; exact k2.elim
        | some z =>
          rw [hz] at k2
          obtain ⟨h1, h2, h3, k3⟩ := k2
          exact ⟨_, .set _ _, .inr ⟨hw, .inr (.inr (.inr (.inl ⟨j, sz, z, hc, hz, h1, h2, h3, rfl, rfl⟩)))⟩, k3⟩
      | sto =>
        rw [hc] at k1
        have k2 : stoK P hs A.h A.eval (fun h => K hs (A.put o.dst (.p (.tuple [])) h)) o.op := k1
        unfold stoK at k2
        split at k2
        · rename_i T a x hop
          split at k2
          · rename_i id ver i kk ha
            obtain ⟨h1, k3⟩ := k2
            unfold skipK at k3
            split at k3
            · rename_i h' hst
              obtain ⟨ob, rfl⟩ := aStore_set hst
              exact ⟨_, .set id ob, .inr ⟨hw, .inr (.inr (.inr (.inr (.inl ⟨hc, T, a, x, id, ver, i, kk, ob, hop, ha, h1, hst, rfl, rfl⟩))))⟩, k3⟩
            · exact k3.elim
          · exact k2.elim
        · exact k2.elim
      | nop =>
        rw [hc] at k1
        have k2 : nopK P A.h A.eval (K hs (A.put o.dst (.p (.tuple [])) A.h)) o.op := k1
        unfold nopK at k2
        split at k2
        · rename_i T a x hop
          exact ⟨_, .app [], .inr ⟨hw, .inr (.inr (.inr (.inr (.inr ⟨hc, rfl, rfl, T, a, x, hop, k2.1⟩))))⟩, by simpa [HE.ap] using k2.2⟩
        · exact k2.elim
theorem orK_mono {A : AAct} {dst : Option Tmp} {K K' : AAct → Prop} {r : OR} (h : ∀ B, K B → K' B) (k : orK P A dst K Q r) : orK P A dst K' Q r := by
  cases r with
  | val v h' => exact h _ k
  | skip h' => exact h _ k
  | call f args =>
    intro M0 m w cargs hS ha
    obtain ⟨h1, h2⟩ := k M0 m w cargs hS ha
    refine ⟨h1, h2.mono fun _ _ hb => ?_⟩
    obtain ⟨r, h', m', hR, rest⟩ := hb
    exact ⟨r, h', m', by cases r <;> first | exact h _ hR | exact hR, rest⟩
  | yld l args =>
    refine ⟨k.1, fun M0 m w cargs bl hS ha hbl => ?_⟩
    obtain ⟨f, tmps, as, bd, h1, h2⟩ := k.2 M0 m w cargs bl hS ha hbl
    refine ⟨f, tmps, as, bd, h1, fun c cs => ?_⟩
    obtain ⟨e, w', ⟨r, h', m', hR, rest⟩, hs⟩ := h2 c cs
    exact ⟨e, w', ⟨r, h', m', by cases r <;> first | exact h _ hR | exact hR, rest⟩, hs⟩
  | dfr d =>
    simp only [orK] at k ⊢
    have gen : ∀ {X Y : Prop} {c : Rc}, (X → Y) → dfrK X c → dfrK Y c := fun hx hc => by
      rename_i c
      cases c <;> first | exact False.elim hc | exact hx hc
    exact gen (h _) k
  | recover =>
    simp only [orK] at k ⊢
    have gen : ∀ {X Y : AAct → PV → Prop} {c : Rc}, (∀ B v, X B v → Y B v) → recK A X c → recK A Y c := fun hx hc => by
      rename_i c
      cases c <;> first | exact False.elim hc | exact hx _ _ hc
    exact gen (fun _ _ => h _) k
  | panic v => exact k
  | stuck => exact k
theorem stepD_mono {o : Oper} {K K' : Heap → AAct → Prop} {hs : Heap} {A : AAct} (h : ∀ hs A, K hs A → K' hs A) (k : stepD P H ops Q o K hs A) : stepD P H ops Q o K' hs A := by
  by_cases hb : dcls H o ≠ .bar ∨ aWanted ops A o = some false
  · obtain ⟨v, E, q, k1⟩ := qs_of_stepD hb k
    exact stepD_of_qs q (h _ _ k1)
  · have hb1 : dcls H o = .bar := Classical.byContradiction fun hn => hb (.inl hn)
    unfold stepD at k ⊢
    cases hw : aWanted ops A o with
    | none => rw [hw] at k; exact k.elim
    | some b =>
      rw [hw, hb1] at k
      rw [hb1]
      cases b with
      | false => exact absurd (.inr hw) hb
      | true =>
        have k1 : orK P A o.dst (fun B => K B.h B) Q (aOp P (mutOf H) o A.eval A.h) := k.1 rfl
        exact ⟨fun _ => orK_mono (K' := fun B => K' B.h B) (fun B => h B.h B) k1, fun h => (by cases h)⟩

theorem dcls_quiet {o : Oper} (h : dcls H o = .quiet) : isQuietOp o.op = true := by
  unfold dcls at h
  split at h
  · unfold stoDC at h
    split at h
    · split at h <;> cases h
    · cases h
  · split at h
    · split at h
      · cases h
      · split at h
        · assumption
        · cases h
    · cases h
    · split at h <;> cases h
    · split at h <;> cases h
    · cases h
theorem dcls_low {o : Oper} (h : dcls H o = .low) : isQuietOp o.op = true := by
  unfold dcls at h
  split at h
  · unfold stoDC at h
    split at h
    · split at h <;> cases h
    · cases h
  · split at h
    · split at h
      · cases h
      · split at h <;> cases h
    · cases h
    · split at h
      · assumption
      · cases h
    · split at h <;> cases h
    · cases h
theorem dcls_slot {o : Oper} {j sz : Nat} (h : dcls H o = .slot j sz) : isSlotOp o.op = true := by
  unfold dcls at h
  split at h
  · unfold stoDC at h
    split at h
    · split at h <;> cases h
    · cases h
  · split at h
    · split at h
      · cases h
      · split at h <;> cases h
    · cases h
    · split at h <;> cases h
    · split at h
      · assumption
      · cases h
    · cases h

theorem operands_slot {e e' : Operand → AV} {o : Oper} (he : ∀ x ∈ o.op.operands, e x = e' x) : slotVal P e o.op = slotVal P e' o.op := by
  unfold slotVal
  split
  · rfl
  · rename_i T x hop
    rw [he x (by rw [hop]; simp [Op.operands])]
  · rfl
theorem eval_looks {A : AAct} {dst : Option Tmp} {v : AV} {h : Heap} {o : Oper} (hd : ∀ d, dst = some d → d ∉ o.looksAt ops) : ∀ x ∈ o.op.operands, (A.put dst v h).eval x = A.eval x := by
  intro x hx
  refine eval_put fun d hd' hxd => hd d hd' ?_
  subst hxd
  exact List.mem_append_left _ (List.mem_filterMap.2 ⟨.tmp d, by simpa using hx, rfl⟩)

/-- the same outcome in a state that looks the same to the operation -/
theorem QS.same {o : Oper} {hs : Heap} {v : AV} {E : HE} {A B : AAct} (q : QS P H ops o hs v E A) (hw : aWanted ops B o = aWanted ops A o) (he : ∀ x ∈ o.op.operands, B.eval x = A.eval x) (hh : B.h = A.h) : QS P H ops o hs v E B := by
  have hop : ∀ h, aOp P (mutOf H) o B.eval h = aOp P (mutOf H) o A.eval h := fun h => aOp_congr o he
  unfold QS SlotAt StoAt NopAt at *
  rw [hw, hh, operands_slot he]
  simp only [hop]
  rcases q with q | ⟨q1, q | q | q | q | ⟨hc, T, a, x, id, ver, i, kk, ob, h1, h2, h3, h4, h5⟩ | ⟨hc, h1, h2, T, a, x, h3, h4⟩⟩
  · exact .inl q
  · exact .inr ⟨q1, .inl q⟩
  · exact .inr ⟨q1, .inr (.inl q)⟩
  · exact .inr ⟨q1, .inr (.inr (.inl q))⟩
  · exact .inr ⟨q1, .inr (.inr (.inr (.inl q)))⟩
  · refine .inr ⟨q1, .inr (.inr (.inr (.inr (.inl ⟨hc, T, a, x, id, ver, i, kk, ob, h1, ?_, h3, ?_, h5⟩))))⟩
    · rw [he a (by rw [h1]; simp [Op.operands])]; exact h2
    · rw [he x (by rw [h1]; simp [Op.operands])]; exact h4
  · refine .inr ⟨q1, .inr (.inr (.inr (.inr (.inr ⟨hc, h1, h2, T, a, x, h3, ?_⟩))))⟩
    rw [he a (by rw [h3]; simp [Op.operands]), he x (by rw [h3]; simp [Op.operands])]; exact h4

/-- two operations in the other order -/
theorem commute {o o' : Oper} {hs : Heap} {v : AV} {E : HE} {A : AAct} {K : Heap → AAct → Prop} (hp : pairOk H ops o o' = true) (q : QS P H ops o hs v E A)
    (k : stepD P H ops Q o' K hs (A.put o.dst v (E.ap A.h))) : stepD P H ops Q o' (fun hs' A' => hs' = hs ∧ QS P H ops o hs v E A' ∧ K hs (A'.put o.dst v (E.ap A'.h))) hs A := by
  unfold pairOk at hp
  simp only [Bool.and_eq_true] at hp
  obtain ⟨hall, hap⟩ := hp
  obtain ⟨a1, a2, a3⟩ := Oper.apart_spec hap
  have hb2 : dcls H o' ≠ .bar := by
    intro hb
    have hall' : ∀ c, pairDC c .bar = false := by intro c; cases c <;> rfl
    rw [hb, hall'] at hall
    cases hall
  obtain ⟨v', E', q', k'⟩ := qs_of_stepD (.inl hb2) k
  have hput : (A.put o.dst v (E.ap A.h)).h = E.ap A.h := put_h _ _ _ _
  have hput' : (A.put o'.dst v' (E'.ap A.h)).h = E'.ap A.h := put_h _ _ _ _
  have ee : ∀ x ∈ o'.op.operands, (A.put o.dst v (E.ap A.h)).eval x = A.eval x := eval_looks a1
  have ew : aWanted ops (A.put o.dst v (E.ap A.h)) o' = aWanted ops A o' := aWanted_put a1
  have ee' : ∀ x ∈ o.op.operands, (A.put o'.dst v' (E'.ap A.h)).eval x = A.eval x := eval_looks a3
  have ew' : aWanted ops (A.put o'.dst v' (E'.ap A.h)) o = aWanted ops A o := aWanted_put a3
  have hop : ∀ h, aOp P (mutOf H) o' (A.put o.dst v (E.ap A.h)).eval h = aOp P (mutOf H) o' A.eval h := fun h => aOp_congr o' ee
  have hop' : ∀ h, aOp P (mutOf H) o (A.put o'.dst v' (E'.ap A.h)).eval h = aOp P (mutOf H) o A.eval h := fun h => aOp_congr o ee'
  -- what is to be shown
  have fin : QS P H ops o' hs v' E' A → QS P H ops o hs v E (A.put o'.dst v' (E'.ap A.h)) → E.ap (E'.ap A.h) = E'.ap (E.ap A.h) →
      stepD P H ops Q o' (fun hs' A' => hs' = hs ∧ QS P H ops o hs v E A' ∧ K hs (A'.put o.dst v (E.ap A'.h))) hs A := by
    intro qA qB hEE
    refine stepD_of_qs qA ⟨rfl, qB, ?_⟩
    rw [hput']
    rw [hput] at k'
    have : (A.put o'.dst v' (E'.ap A.h)).put o.dst v (E.ap (E'.ap A.h)) = (A.put o.dst v (E.ap A.h)).put o'.dst v' (E'.ap (E.ap A.h)) := by
      rw [hEE]
      exact (put_comm A v v' _ _ _ a2).symm
    rw [this]
    exact k'
  -- the operation of the text leaves the heap as it is
  have still : E = .app [] → QS P H ops o' hs v' E' A := fun hE => by
    refine q'.same ew.symm (fun x hx => (ee x hx).symm) ?_
    rw [hput, hE]; simp [HE.ap]
  -- the other one does
  have still' : E' = .app [] → QS P H ops o hs v E (A.put o'.dst v' (E'.ap A.h)) := fun hE => by
    refine q.same ew' ee' ?_
    rw [hput', hE]; simp [HE.ap]
  have lowA : (aWanted ops A o' = some false ∧ v' = .p (.tuple []) ∧ E' = .app []) ∨ (aWanted ops A o' = some true ∧ dcls H o' = .low ∧ E' = .app [] ∧ Qv P hs (aOp P (mutOf H) o' A.eval hs) v') →
      stepD P H ops Q o' (fun hs' A' => hs' = hs ∧ QS P H ops o hs v E A' ∧ K hs (A'.put o.dst v (E.ap A'.h))) hs A := by
    rintro (⟨hw, hv, hE⟩ | ⟨hw, hc, hE, hq⟩)
    · exact fin (.inl ⟨hw, hv, hE⟩) (still' hE) (by rw [hE]; simp [HE.ap])
    · exact fin (.inr ⟨hw, .inr (.inl ⟨hc, hE, hq⟩)⟩) (still' hE) (by rw [hE]; simp [HE.ap])
  have q0 := q'
  unfold QS at q'
  rw [ew] at q'
  simp only [hop] at q'
  have q1 := q
  rcases q with ⟨hw, rfl, rfl⟩ | ⟨hw, ⟨hc, rfl, hq⟩ | ⟨hc, rfl, hq⟩ | ⟨hc, t, rfl, hq⟩ | hsl | hst | hnp⟩
  · exact fin (still rfl) (.inl ⟨ew'.trans hw, rfl, rfl⟩) (by simp [HE.ap])
  · have happ : ∃ t', E' = .app t' := by
      rcases q' with ⟨_, _, h⟩ | ⟨_, ⟨_, h, _⟩ | ⟨_, h, _⟩ | ⟨_, t', h, _⟩ | ⟨_, _, _, hc', _⟩ | ⟨hc', _⟩ | ⟨_, _, h, _⟩⟩
      · exact ⟨_, h⟩
      · exact ⟨_, h⟩
      · exact ⟨_, h⟩
      · exact ⟨t', h⟩
      · rw [hc, hc'] at hall; cases hall
      · rw [hc, hc'] at hall; cases hall
      · exact ⟨_, h⟩
    obtain ⟨t', rfl⟩ := happ
    refine fin (still rfl) (.inr ⟨ew'.trans hw, .inl ⟨hc, rfl, ?_⟩⟩) (by simp [HE.ap])
    rw [hput', hop']
    have hpre := pre_op (P := P) (mu := mutOf H) (o := o) A.eval (dcls_quiet hc) A.h (A.h ++ t') (SubH.app _ _)
    rcases hq with hq | ⟨f, args, hq, hcall⟩
    · exact .inl (hpre.1 _ hq)
    · exact .inr ⟨f, args, hpre.2 _ _ hq, fun h' hs' => hcall h' ((SubH.app _ _).trans hs')⟩
  · exact fin (still rfl) (.inr ⟨ew'.trans hw, .inr (.inl ⟨hc, rfl, by rw [hop']; exact hq⟩)⟩) (by simp [HE.ap])
  · rcases q' with h | ⟨hw', ⟨hc', _⟩ | h | ⟨hc', _⟩ | ⟨_, _, _, hc', _⟩ | ⟨hc', _⟩ | ⟨hc', _⟩⟩
    · exact lowA (.inl h)
    · rw [hc, hc'] at hall; cases hall
    · exact lowA (.inr ⟨hw', h⟩)
    · rw [hc, hc'] at hall; cases hall
    · rw [hc, hc'] at hall; cases hall
    · rw [hc, hc'] at hall; cases hall
    · rw [hc, hc'] at hall; cases hall
  · obtain ⟨j, sz, z, hc, h1, h2, h3, h4, rfl, rfl⟩ := hsl
    rcases q' with h | ⟨hw', ⟨hc', _⟩ | h | ⟨hc', _⟩ | ⟨j', sz', z', hc', g1, g2, g3, g4, rfl, rfl⟩ | ⟨hc', _⟩ | ⟨hc', _⟩⟩
    · exact lowA (.inl h)
    · rw [hc, hc'] at hall; cases hall
    · exact lowA (.inr ⟨hw', h⟩)
    · rw [hc, hc'] at hall; cases hall
    · rw [hput] at g4
      have hne : hs.length - 1 - j ≠ hs.length - 1 - j' := by
        intro e
        have hlt := (List.getElem?_eq_some_iff.1 h4).1
        have g5 : (A.h.set (hs.length - 1 - j) (.row sz [z]))[hs.length - 1 - j']? = some (.row sz' []) := g4
        rw [← e, List.getElem?_set_self hlt] at g5
        cases g5
      have g5 : A.h[hs.length - 1 - j']? = some (.row sz' []) := by
        have : (A.h.set (hs.length - 1 - j) (.row sz [z]))[hs.length - 1 - j']? = some (.row sz' []) := g4
        rwa [List.getElem?_set_ne hne] at this
      refine fin (.inr ⟨hw', .inr (.inr (.inr (.inl ⟨j', sz', z', hc', ?_, g2, g3, g5, rfl, rfl⟩)))⟩) (.inr ⟨ew'.trans hw, .inr (.inr (.inr (.inl ⟨j, sz, z, hc, ?_, h2, h3, ?_, rfl, rfl⟩)))⟩) ?_
      · rw [← operands_slot ee]; exact g1
      · rw [operands_slot ee']; exact h1
      · rw [hput']
        show (A.h.set (hs.length - 1 - j') (.row sz' [z']))[hs.length - 1 - j]? = _
        rw [List.getElem?_set_ne (Ne.symm hne)]
        exact h4
      · exact List.set_comm _ _ (Ne.symm hne)
    · rw [hc, hc'] at hall; cases hall
    · rw [hc, hc'] at hall; cases hall
  · have hc := hst.1
    rcases q' with h | ⟨hw', ⟨hc', _⟩ | h | ⟨hc', _⟩ | ⟨_, _, _, hc', _⟩ | ⟨hc', _⟩ | ⟨hc', _⟩⟩
    · exact lowA (.inl h)
    · rw [hc, hc'] at hall; cases hall
    · exact lowA (.inr ⟨hw', h⟩)
    · rw [hc, hc'] at hall; cases hall
    · rw [hc, hc'] at hall; cases hall
    · rw [hc, hc'] at hall; cases hall
    · rw [hc, hc'] at hall; cases hall
  · obtain ⟨hc, rfl, rfl, T, a, x, h1, h2⟩ := hnp
    have hE' : E' = .app [] := by
      rcases q' with ⟨_, _, h⟩ | ⟨_, ⟨_, h, _⟩ | ⟨_, h, _⟩ | ⟨hc', _⟩ | ⟨_, _, _, hc', _⟩ | ⟨hc', _⟩ | ⟨_, _, h, _⟩⟩
      · exact h
      · exact h
      · exact h
      · rw [hc, hc'] at hall; cases hall
      · rw [hc, hc'] at hall; cases hall
      · rw [hc, hc'] at hall; cases hall
      · exact h
    exact fin (still rfl) (still' hE') (by rw [hE'])

end Abs
end Go.Proofs.Ythekmbikolpmlaa
