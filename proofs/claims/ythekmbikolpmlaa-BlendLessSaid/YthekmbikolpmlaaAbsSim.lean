/-
  LAWS: a code, in the abstract machine and in the model's. What is known of regions of any order is handed in.
-/
import Derived.Test.YthekmbikolpmlaaAbsStep
namespace Go.Proofs.Ythekmbikolpmlaa
namespace Abs
variable {P : Program} {M0 : Nat → Prop} {S0 : Mem} {b : Frame} {cs0 : List Frame} {m : List (Option Nat)} {A : AAct} {a : Act} {w : World} {H : Hints}

/-- where the machine has come -/
def Arr (P : Program) (M : Nat → Prop) (mc : Machine) (b : Frame) (k : List Item) (cs : List Frame) (a : Act) (w : World) : Ex → Prop
  | .normal => Steps P mc (lone (b.atR a k) cs w)
  | .exit id => (∀ k', exitTo id k = some k' → Steps P mc (lone (b.atR a k') cs w)) ∧
      (exitTo id k = none → ∃ k₁, exitTo id k₁ = none ∧ Steps P mc (lone (b.atR a (.code (.exit id) :: k₁)) cs w))
  | .ret => ∃ k₁, Steps P mc (lone (b.atR a (.code .ret :: k₁)) cs w)
  | .panic v => ∃ v' todo, RepP M w v' v ∧ Steps P mc (lone { b.atR a todo with mode := .panicking [{ v := v', recovered := false }] } cs w)

def Sim (P : Program) (M0 : Nat → Prop) (S0 : Mem) (b : Frame) (cs0 : List Frame) (n : Nat) (mc : Machine) (k : List Item) (Q : Ex → AAct → Prop) : Prop :=
  ∃ e A' m' a' w', Q e A' ∧ A'.n = n ∧ Rel P M0 S0 b cs0 m' A' a' w' ∧ Arr P (Avoid M0 m') mc b k (csAt A'.rc cs0) a' w' e

theorem Arr.of_steps {M : Nat → Prop} {mc mc' : Machine} {k : List Item} {cs : List Frame} {e : Ex} (h : Steps P mc mc') (h' : Arr P M mc' b k cs a w e) : Arr P M mc b k cs a w e := by
  cases e with
  | normal => exact Steps.trans h h'
  | exit id => exact ⟨fun k' hk => h.trans (h'.1 k' hk), fun hk => let ⟨k₁, h1, h2⟩ := h'.2 hk; ⟨k₁, h1, h.trans h2⟩⟩
  | ret => exact let ⟨k₁, h1⟩ := h'; ⟨k₁, h.trans h1⟩
  | panic v => exact let ⟨v', todo, h1, h2⟩ := h'; ⟨v', todo, h1, h.trans h2⟩
theorem Sim.of_steps {n : Nat} {mc mc' : Machine} {k : List Item} {Q : Ex → AAct → Prop} (h : Steps P mc mc') (h' : Sim P M0 S0 b cs0 n mc' k Q) : Sim P M0 S0 b cs0 n mc k Q :=
  let ⟨e, A', m', a', w', h1, h2, h3, h4⟩ := h'; ⟨e, A', m', a', w', h1, h2, h3, h4.of_steps h⟩
/-- an item that catches nothing -/
theorem Arr.pass {M : Nat → Prop} {mc : Machine} {x : Item} {k : List Item} {cs : List Frame} {e : Ex} (hx : x.plain = true) (he : e ≠ .normal) (h : Arr P M mc b (x :: k) cs a w e) : Arr P M mc b k cs a w e := by
  have hxt : ∀ id, exitTo id (x :: k) = exitTo id k := by intro id; cases x <;> simp_all [exitTo, Item.plain]
  cases e with
  | normal => exact absurd rfl he
  | exit id => exact ⟨fun k' hk => h.1 k' (by rw [hxt]; exact hk), fun hk => h.2 (by rw [hxt]; exact hk)⟩
  | ret => exact h
  | panic v => exact h

theorem wanted_false {ops : Array Oper} {o : Oper} {i : Nat} (ho : ops[i]? = some o) (hw : Region.wanted o (yielded ops a.tmps) = false) :
    ((ops[i]?).map (Region.wanted · (yielded ops a.tmps))).getD false = false := by simp [ho, hw]

/-- whether an operation is wanted -/
theorem Rel.wanted (h : Rel P M0 S0 b cs0 m A a w) {ops : Array Oper} {o : Oper} {t : Bool} (hw : aWanted ops A o = some t) : Region.wanted o (yielded ops a.tmps) = t := by
  unfold aWanted at hw
  unfold Region.wanted
  cases hg : o.guard with
  | none => rw [hg] at hw; cases hw; rfl
  | some g =>
    obtain ⟨j, want⟩ := g
    rw [hg] at hw
    simp only at hw ⊢
    unfold yielded
    unfold guardAt at hw
    cases hd : (ops[j]?).bind (·.dst) with
    | none => rw [hd] at hw; cases hw; rfl
    | some d =>
      rw [hd] at hw
      simp only at hw
      have ht := h.tmps d
      simp only [Option.bind_some]
      split at hw
      · rename_i bb hbb
        rw [hbb] at ht
        have := bool_rep ht
        cases hw
        rw [Array.getD_eq_getD_getElem?] at this
        cases hq : a.tmps[d]? with
        | none => rw [hq] at this; cases this
        | some z =>
          rw [hq] at this
          simp only [Option.getD_some] at this
          subst this
          cases bb <;> cases want <;> rfl
      · rename_i l hbb
        rw [hbb] at ht
        have h1 : RepP (Avoid M0 m) w (a.tmps.getD d undef) (.tuple l) := ht
        cases hw
        rw [Array.getD_eq_getD_getElem?] at h1
        cases hq : a.tmps[d]? with
        | none => rfl
        | some z =>
          rw [hq] at h1
          simp only [Option.getD_some] at h1
          cases h1
          rfl
      · cases hw

theorem ops_sim {ops : Array Oper} {Q : Ex → AAct → Prop} {n : Nat} {k : List Item} (hd : ops.toList.all (dstOk n) = true) : ∀ (l : List Oper) (i : Nat), ops.toList.drop i = l →
    ∀ {m A a w}, Rel P M0 S0 b cs0 m A a w → A.n = n → wpOps P H ops Q l A →
      Sim P M0 S0 b cs0 n (lone (b.atR a (.inRegion ops ((List.range ops.size).drop i) :: k)) (csAt A.rc cs0) w) k Q := by
  intro l
  induction l with
  | nil =>
    intro i hi m A a w hr hn h
    have hlen : ops.size ≤ i := by
      have := congrArg List.length hi
      simp at this
      omega
    have : (List.range ops.size).drop i = [] := by simp [hlen]
    rw [this]
    exact ⟨.normal, A, m, a, w, h, hn, hr, .one stepR_region_end⟩
  | cons o rest ih =>
    intro i hi m A a w hr hn h
    have hlt : i < ops.size := by
      have := congrArg List.length hi
      simp at this
      omega
    have hoi : ops[i]? = some o := by
      have h1 : ops.toList[i]? = some o := by
        have := List.getElem?_drop (xs := ops.toList) (i := i) (j := 0)
        rw [hi] at this
        simpa using this.symm
      simpa using h1
    have hdrop : (List.range ops.size).drop i = i :: (List.range ops.size).drop (i + 1) := by
      rw [List.drop_eq_getElem_cons (by simpa using hlt)]
      simp
    have hnext : ops.toList.drop (i + 1) = rest := by
      have := congrArg List.tail hi
      simpa [List.tail_drop] using this
    have hdo : dstOk A.n o = true := by
      rw [hn]
      exact List.all_eq_true.1 hd o (by have := List.mem_of_getElem? (l := ops.toList) (i := i) (a := o) (by simpa using hoi); exact this)
    rw [hdrop]
    unfold wpOps at h
    cases hw : aWanted ops A o with
    | none => rw [hw] at h; exact h.elim
    | some t =>
      rw [hw] at h
      have hwm := hr.wanted hw
      cases t with
      | true =>
        have h1 := h.1 rfl
        rcases op_step (i := i) (rest := (List.range ops.size).drop (i + 1)) (k := k) hoi hdo hwm hr h1 with ⟨A', m', a', w', hK, hn', hr', hs⟩ | ⟨v, A', m', a', w', v', todo, hQ, hn', hr', hv, hs⟩
        · exact (ih (i + 1) hnext hr' (hn'.trans hn) hK).of_steps hs
        · exact ⟨.panic v, A', m', a', w', hQ, hn'.trans hn, hr', v', todo, hv, hs⟩
      | false =>
        have h1 := h.2 rfl
        have hs := stepR_op_skip (P := P) (b := b) (k := k) (cs := csAt A.rc cs0) (w := w) (rest := (List.range ops.size).drop (i + 1)) (wanted_false hoi hwm)
        simp only [hoi, Option.bind_some] at hs
        have hr' := hr.put (dst := o.dst) (dst_lt hdo) (undef_rep _ _)
        have := ih (i + 1) hnext hr' ((put_n _ _ _ _).trans hn) h1
        rw [put_rc] at this
        exact this.of_steps (.one hs)

/-- what is known of regions of any order -/
def DrawLaw (P : Program) : Prop :=
  ∀ {M0 : Nat → Prop} {S0 : Mem} {b : Frame} {cs0 : List Frame} {m : List (Option Nat)} {A : AAct} {a : Act} {w : World} {H : Hints} {ops : Array Oper} {Q : Ex → AAct → Prop} {n id : Nat} {k : List Item},
    ops.toList.all (dstOk n) = true → drawOk H ops = true → Rel P M0 S0 b cs0 m A a w → A.n = n → wpDraw P H ops Q ops.toList (drawHs H ops.toList A) (drawA H ops.toList A) →
      Sim P M0 S0 b cs0 n (lone (b.atR a (.code (.region id ops true) :: k)) (csAt A.rc cs0) w) k Q

theorem set_dead_ok {S : Mem} (hS : HOk M0 S) (id : Nat) {w' : World} (hw : Fr S.m S.w w') (hb : ∀ x bl, x ≠ id → S.m.getD x none = some bl → w'.heap[bl]? = S.w.heap[bl]?) :
    HOk M0 ⟨S.m, S.h.set id .dead, w'⟩ ∧ Ev S.h.length S ⟨S.m, S.h.set id .dead, w'⟩ := by
  have hev : Ev S.h.length S ⟨S.m, S.h.set id .dead, w'⟩ :=
    { fr := hw
      sub := fun bl h => .inl h
      obj := fun x o hx ho => by
        by_cases hxi : x = id
        · subst hxi
          exact ⟨.dead, by simp [hx], .inl rfl⟩
        · exact ⟨o, by simp [List.getElem?_set_ne (Ne.symm hxi), ho], ObjEv.refl _ _⟩ }
  refine ⟨?_, hev⟩
  exact
    { len := by simpa using hS.len
      lt := fun bl h => Nat.lt_of_lt_of_le (hS.lt bl h) hw.size
      m0 := fun bl h => ⟨Nat.lt_of_lt_of_le (hS.m0 bl h).1 hw.size, (hS.m0 bl h).2⟩
      inj := hS.inj
      obj := fun x o ho => by
        by_cases hxi : x = id
        · subst hxi
          have ho' : (S.h.set x .dead)[x]? = some o := ho
          have hx : x < S.h.length := by
            have := (List.getElem?_eq_some_iff.1 ho').1
            simpa using this
          rw [List.getElem?_set_self hx] at ho'
          cases ho'
          exact trivial
        · have ho' : (S.h.set id .dead)[x]? = some o := ho
          rw [List.getElem?_set_ne (Ne.symm hxi)] at ho'
          exact (hS.obj x o ho').keep hev fun bl hbl => hb x bl hxi hbl }

end Abs
end Go.Proofs.Ythekmbikolpmlaa
