/-
  LAWS: regions of any order: what the order of the text comes to, every order comes to.
-/
import Derived.Test.YthekmbikolpmlaaAbsDrawB
namespace Go.Proofs.Ythekmbikolpmlaa
namespace Abs
variable {P : Program} {H : Hints} {ops : Array Oper} {Q : Ex → AAct → Prop}

/-! ### what lies before -/
def befF (acc : Array Nat) (o : Oper) : Array Nat := acc.push (o.after.foldl (fun s e => if Region.binds .any e then s ||| 2 ^ e.on ||| acc.getD e.on 0 else s) 0)
def BefGood (p : List Oper) (acc : Array Nat) : Prop :=
  acc.size = p.length ∧ ∀ j i, (acc.getD j 0).testBit i = true → ∃ o, p[j]? = some o ∧ ∃ e, e ∈ o.after ∧ Region.binds .any e = true ∧ (i = e.on ∨ (e.on < j ∧ (acc.getD e.on 0).testBit i = true))

theorem foldl_bits (acc : Array Nat) (i : Nat) : ∀ (l : List Edge) (s : Nat), (l.foldl (fun s e => if Region.binds .any e then s ||| 2 ^ e.on ||| acc.getD e.on 0 else s) s).testBit i = true →
    s.testBit i = true ∨ ∃ e, e ∈ l ∧ Region.binds .any e = true ∧ (i = e.on ∨ (acc.getD e.on 0).testBit i = true)
  | [], s, h => .inl h
  | e :: l, s, h => by
    simp only [List.foldl_cons] at h
    rcases foldl_bits acc i l _ h with h | ⟨e', h1, h2⟩
    · by_cases hb : Region.binds .any e = true
      · simp only [hb, if_true, Nat.testBit_or, Bool.or_eq_true] at h
        rcases h with (h | h) | h
        · exact .inl h
        · refine .inr ⟨e, by simp, hb, .inl ?_⟩
          rw [Nat.testBit_two_pow] at h
          exact (of_decide_eq_true h).symm
        · exact .inr ⟨e, by simp, hb, .inr h⟩
      · simp only [hb, if_false, Bool.false_eq_true] at h
        exact .inl h
    · exact .inr ⟨e', by simp [h1], h2⟩

theorem befF_good {p : List Oper} {acc : Array Nat} (h : BefGood p acc) (o : Oper) : BefGood (p ++ [o]) (befF acc o) := by
  obtain ⟨h1, h2⟩ := h
  refine ⟨by simp [befF, h1], fun j i hj => ?_⟩
  have low : ∀ k, k < acc.size → (befF acc o).getD k 0 = acc.getD k 0 := by
    intro k hk
    simp [befF, Array.getD_eq_getD_getElem?, Array.getElem?_push, Nat.ne_of_lt hk]
  rcases Nat.lt_trichotomy j acc.size with hlt | heq | hgt
  · rw [low j hlt] at hj
    obtain ⟨o', h3, e, h4, h5, h6⟩ := h2 j i hj
    refine ⟨o', by rw [List.getElem?_append_left (by omega)]; exact h3, e, h4, h5, ?_⟩
    rcases h6 with h6 | ⟨h6, h7⟩
    · exact .inl h6
    · exact .inr ⟨h6, by rw [low e.on (by omega)]; exact h7⟩
  · subst heq
    refine ⟨o, by rw [h1]; simp, ?_⟩
    have hj' : (o.after.foldl (fun s e => if Region.binds .any e then s ||| 2 ^ e.on ||| acc.getD e.on 0 else s) 0).testBit i = true := by
      simpa [befF, Array.getD_eq_getD_getElem?] using hj
    rw [← Array.foldl_toList] at hj'
    rcases foldl_bits acc i _ _ hj' with h | ⟨e, h3, h4, h5⟩
    · simp at h
    · refine ⟨e, Array.mem_toList_iff.1 h3, h4, ?_⟩
      rcases h5 with h5 | h5
      · exact .inl h5
      · have hlt : e.on < acc.size := by
          rcases Nat.lt_or_ge e.on acc.size with hx | hx
          · exact hx
          · simp [Array.getD_eq_getD_getElem?, Array.getElem?_eq_none hx] at h5
        exact .inr ⟨hlt, by rw [low _ hlt]; exact h5⟩
  · have : (befF acc o).getD j 0 = 0 := by
      simp [befF, Array.getD_eq_getD_getElem?, Array.getElem?_eq_none (show (acc.push _).size ≤ j by simp; omega)]
    rw [this] at hj
    simp at hj

theorem before_good (ops : Array Oper) : BefGood ops.toList (Region.before ops) := by
  have key : ∀ (l p : List Oper) (acc : Array Nat), BefGood p acc → BefGood (p ++ l) (l.foldl befF acc) := by
    intro l
    induction l with
    | nil => intro p acc h; simpa using h
    | cons o l ih =>
      intro p acc h
      have := ih (p ++ [o]) _ (befF_good h o)
      simpa using this
  have h0 : BefGood [] #[] := ⟨rfl, fun j i h => by simp at h⟩
  have := key ops.toList [] #[] h0
  have heq : Region.before ops = ops.toList.foldl befF #[] := by
    unfold Region.before
    rw [← Array.foldl_toList]
    rfl
  rw [heq]
  simpa using this

/-- what has been run holds all that lies before it -/
def Down (ops : Array Oper) (listed : Array Bool) : Prop :=
  ∀ j o, listed.getD j false = true → ops[j]? = some o → ∀ e, e ∈ o.after → Region.binds .any e = true → listed.getD e.on false = true
theorem bef_listed {listed : Array Bool} (hD : Down ops listed) : ∀ (j i : Nat) (o : Oper), ops[j]? = some o → (∀ e, e ∈ o.after → Region.binds .any e = true → listed.getD e.on false = true) →
    befBit (Region.before ops) i j = true → listed.getD i false = true := by
  intro j
  induction j using Nat.strongRecOn with
  | _ j ih =>
    intro i o ho hall hb
    obtain ⟨o', h1, e, h2, h3, h4⟩ := (before_good ops).2 j i hb
    have ho' : ops[j]? = some o' := by simpa using h1
    rw [ho] at ho'
    cases ho'
    rcases h4 with rfl | ⟨h4, h5⟩
    · exact hall e h2 h3
    · have hl := hall e h2 h3
      obtain ⟨o2, h6, _⟩ := (before_good ops).2 e.on i h5
      have h6' : ops[e.on]? = some o2 := by simpa using h6
      exact ih e.on h4 i o2 h6' (hD e.on o2 hl h6') h5
theorem Down.set {listed : Array Bool} (hD : Down ops listed) {i : Nat} (hi : i ∈ Region.ready .any ops listed) : Down ops (listed.setIfInBounds i true) := by
  intro j o hj ho e he hb
  obtain ⟨h0, oi, hoi, hall⟩ := mem_ready.1 hi
  by_cases hji : j = i
  · subst hji
    rw [ho] at hoi; cases hoi
    exact getD_set_true (hall e he hb)
  · rw [getD_set_ne false (Ne.symm hji)] at hj
    exact getD_set_true (hD j o hj ho e he hb)

/-! ### any order, in the abstract machine -/
def AnyW (P : Program) (H : Hints) (ops : Array Oper) (Q : Ex → AAct → Prop) : Nat → Array Bool → Heap → AAct → Prop
  | 0, listed, _, A => Region.ready .any ops listed = [] ∧ Q .normal A
  | fuel + 1, listed, hs, A =>
    (Region.ready .any ops listed = [] → Q .normal A) ∧
    ∀ i ∈ Region.ready .any ops listed, ∀ o, ops[i]? = some o → stepD P H ops Q o (AnyW P H ops Q fuel (listed.setIfInBounds i true)) hs A

/-- all that has not been run comes behind i, or is i -/
def Behindi (listed : Array Bool) (i : Nat) : Prop := ∀ j, listed.getD j true = false → i ≤ j

theorem drawOk_pair (h : drawOk H ops = true) {i j : Nat} {x y : Oper} (hi : ops[i]? = some x) (hj : ops[j]? = some y) (hlt : i < j) : befBit (Region.before ops) i j = true ∨ pairOk H ops x y = true := by
  unfold drawOk at h
  simp only [List.all_eq_true, Bool.and_eq_true] at h
  have hy : (y, j) ∈ ops.toList.zipIdx := by rw [List.mem_zipIdx_iff_getElem?]; simpa using hj
  have hx : (x, i) ∈ ops.toList.zipIdx := by rw [List.mem_zipIdx_iff_getElem?]; simpa using hi
  have := (h (y, j) hy).2 (x, i) hx
  simp only [Bool.or_eq_true, Bool.not_eq_true', decide_eq_false_iff_not] at this
  rcases this with (h1 | h1) | h1
  · exact absurd hlt h1
  · exact .inl h1
  · exact .inr h1
theorem drawOk_edge (h : drawOk H ops = true) {j : Nat} {y : Oper} (hj : ops[j]? = some y) {e : Edge} (he : e ∈ y.after) (hb : Region.binds .any e = true) : e.on < j := by
  unfold drawOk at h
  simp only [List.all_eq_true, Bool.and_eq_true] at h
  have hy : (y, j) ∈ ops.toList.zipIdx := by rw [List.mem_zipIdx_iff_getElem?]; simpa using hj
  have := (h (y, j) hy).1.1.1
  have := (Array.all_eq_true_iff_forall_mem.1 this) e he
  simp only [hb, Bool.not_true, Bool.false_or, decide_eq_true_eq] at this
  exact this

theorem any_first {i : Nat} {oi : Oper} {v : AV} {E : HE} {hs : Heap} (hok : drawOk H ops = true) (hi : ops[i]? = some oi) :
    ∀ (fuel : Nat) (listed : Array Bool) (A : AAct), Down ops listed → Behindi listed i → i ∈ Region.ready .any ops listed → QS P H ops oi hs v E A →
      AnyW P H ops Q fuel (listed.setIfInBounds i true) hs (A.put oi.dst v (E.ap A.h)) → AnyW P H ops Q (fuel + 1) listed hs A := by
  intro fuel
  induction fuel with
  | zero =>
    intro listed A _ _ hr q k
    refine ⟨fun h => (by rw [h] at hr; cases hr), fun j hj o ho => ?_⟩
    by_cases hji : j = i
    · subst hji
      rw [hi] at ho; cases ho
      exact stepD_of_qs q k
    · have := ready_mono hj hji
      rw [k.1] at this
      cases this
  | succ fuel ih =>
    intro listed A hD hB hr q k
    refine ⟨fun h => (by rw [h] at hr; cases hr), fun j hj o ho => ?_⟩
    by_cases hji : j = i
    · subst hji
      rw [hi] at ho; cases ho
      exact stepD_of_qs q k
    · have h1 := k.2 j (ready_mono hj hji) o ho
      obtain ⟨hjun, oj, hoj, hall⟩ := mem_ready.1 hj
      rw [ho] at hoj; cases hoj
      have hlt : i < j := by
        have := hB j hjun
        omega
      have hp : pairOk H ops oi o = true := by
        rcases drawOk_pair hok hi ho hlt with h | h
        · have h2 := bef_listed hD j i o ho (fun e he hb => hall e he hb) h
          have h0 := (mem_ready.1 hr).1
          rcases Nat.lt_or_ge i listed.size with h' | h'
          · simp [h'] at h0 h2; rw [h0] at h2; cases h2
          · simp [Array.getElem?_eq_none h'] at h2
        · exact h
      have h2 := commute hp q h1
      refine stepD_mono ?_ h2
      rintro hs' A' ⟨rfl, q', k'⟩
      refine ih (listed.setIfInBounds j true) A' (hD.set hj) ?_ (ready_mono hr (Ne.symm hji)) q' ?_
      · intro x hx
        by_cases hxj : j = x
        · subst hxj; omega
        · rw [getD_set_ne true hxj] at hx; exact hB x hx
      · rw [Array.setIfInBounds_comm _ _ hji]
        exact k'

/-- the first ones have been run -/
def firsts (n i : Nat) : Array Bool := ((List.range n).map fun j => decide (j < i)).toArray
theorem firsts_getD (n i j : Nat) (d : Bool) : (firsts n i).getD j d = if j < n then decide (j < i) else d := by
  unfold firsts
  rw [Array.getD_eq_getD_getElem?]
  by_cases h : j < n
  · simp [h]
  · simp [h]
theorem firsts_zero (n : Nat) : firsts n 0 = Array.replicate n false := by
  apply Array.ext
  · simp [firsts]
  · intro i h1 h2
    simp [firsts]
theorem firsts_set (n i : Nat) : (firsts n i).setIfInBounds i true = firsts n (i + 1) := by
  apply Array.ext
  · simp [firsts]
  · intro j h1 h2
    have hn : j < n := by simpa [firsts] using h2
    rw [Array.getElem_setIfInBounds (by simpa using h1)]
    simp only [firsts]
    by_cases h : i = j
    · subst h; simp
    · simp [h]; omega
theorem firsts_down (hok : drawOk H ops = true) (i : Nat) : Down ops (firsts ops.size i) := by
  intro j o hj ho e he hb
  rw [firsts_getD] at hj ⊢
  have hlt : j < ops.size := (Array.getElem?_eq_some_iff.1 ho).1
  have hlt' := drawOk_edge hok ho he hb
  simp only [hlt, if_true, decide_eq_true_eq] at hj
  rw [if_pos (by omega)]
  simp; omega
theorem firsts_ready (hok : drawOk H ops = true) {i : Nat} {o : Oper} (ho : ops[i]? = some o) : i ∈ Region.ready .any ops (firsts ops.size i) := by
  have hlt : i < ops.size := (Array.getElem?_eq_some_iff.1 ho).1
  refine mem_ready.2 ⟨?_, o, ho, fun e he hb => ?_⟩
  · rw [firsts_getD, if_pos hlt]; simp
  · have hlt' := drawOk_edge hok ho he hb
    rw [firsts_getD, if_pos (by omega)]; simpa using hlt'
theorem firsts_behind (i : Nat) : Behindi (firsts ops.size i) i := by
  intro j hj
  rw [firsts_getD] at hj
  split at hj
  · simpa using hj
  · cases hj

theorem draw_any (hok : drawOk H ops = true) : ∀ (l : List Oper) (i : Nat) (hs : Heap) (A : AAct), ops.toList.drop i = l → wpDraw P H ops Q l hs A → AnyW P H ops Q (ops.size - i) (firsts ops.size i) hs A := by
  intro l
  induction l with
  | nil =>
    intro i hs A hi h
    have hlen : ops.size ≤ i := by
      have := congrArg List.length hi
      simp at this
      omega
    have h0 : ops.size - i = 0 := by omega
    rw [h0]
    refine ⟨?_, h⟩
    refine List.eq_nil_iff_forall_not_mem.2 fun j hj => ?_
    obtain ⟨h1, o, ho, _⟩ := mem_ready.1 hj
    have hlt : j < ops.size := (Array.getElem?_eq_some_iff.1 ho).1
    rw [firsts_getD, if_pos hlt] at h1
    simp at h1
    omega
  | cons o rest ih =>
    intro i hs A hi h
    have hlt : i < ops.size := by
      have := congrArg List.length hi
      simp at this
      omega
    have hoi : ops[i]? = some o := by
      have h1 : ops.toList[i]? = some o := by
        have := List.getElem?_drop (xs := ops.toList) (i := i) (j := 0)
        rw [hi] at this
        simpa using this.symm
      simpa using h1
    have hnext : ops.toList.drop (i + 1) = rest := by
      have := congrArg List.tail hi
      simpa [List.tail_drop] using this
    have hfuel : ops.size - i = (ops.size - (i + 1)) + 1 := by omega
    rw [wpDraw_cons] at h
    have h' : stepD P H ops Q o (AnyW P H ops Q (ops.size - (i + 1)) (firsts ops.size (i + 1))) hs A := stepD_mono (fun hs A hk => ih (i + 1) hs A hnext hk) h
    rw [hfuel]
    by_cases hb : dcls H o ≠ .bar ∨ aWanted ops A o = some false
    · obtain ⟨v, E, q, k⟩ := qs_of_stepD hb h'
      rw [← firsts_set] at k
      exact any_first hok hoi _ _ A (firsts_down hok i) (firsts_behind i) (firsts_ready hok hoi) q k
    · have hb1 : dcls H o = .bar := Classical.byContradiction fun hn => hb (.inl hn)
      refine ⟨fun h0 => ?_, fun j hj oj hoj => ?_⟩
      · have := firsts_ready hok hoi
        rw [h0] at this
        cases this
      · have hji : j = i := by
          obtain ⟨h1, o', ho', hall⟩ := mem_ready.1 hj
          rw [hoj] at ho'; cases ho'
          have hjlt : j < ops.size := (Array.getElem?_eq_some_iff.1 hoj).1
          have hij := firsts_behind (ops := ops) i j h1
          rcases Nat.lt_or_ge i j with h2 | h2
          · exfalso
            rcases drawOk_pair hok hoi hoj h2 with h3 | h3
            · have h4 := bef_listed (firsts_down hok i) j i oj hoj hall h3
              rw [firsts_getD, if_pos hlt] at h4
              simp at h4
            · have hall' : ∀ c, pairDC .bar c = false := by intro c; cases c <;> rfl
              unfold pairOk at h3
              rw [hb1, hall'] at h3
              simp at h3
          · omega
        subst hji
        rw [hoi] at hoj; cases hoj
        rw [firsts_set]
        exact h'

/-! ### any order, in the model's machine -/
variable {M0 : Nat → Prop} {S0 : Mem} {b : Frame} {cs0 : List Frame}

theorem subH_set {hs h : Heap} (hx : SubH hs h) {id : Nat} (hd : deadAt hs id = true) (ob : AObj) : SubH hs (h.set id ob) := by
  intro x o ho hn
  by_cases hxi : id = x
  · subst hxi
    unfold deadAt at hd
    rw [ho] at hd
    cases o <;> first | (cases hd; done) | (cases hn; done)
  · rw [List.getElem?_set_ne hxi]; exact hx x o ho hn

theorem stepD_or {o : Oper} {K : Heap → AAct → Prop} {hs : Heap} {A : AAct} (hx : SubH hs A.h) (k : stepD P H ops Q o K hs A) :
    (aWanted ops A o = some false ∧ K hs (A.put o.dst (.p (.tuple [])) A.h)) ∨
    (aWanted ops A o = some true ∧ orK P A o.dst (fun B => ∃ hs', SubH hs' B.h ∧ K hs' B) Q (aOp P (mutOf H) o A.eval A.h)) ∨
    (aWanted ops A o = some true ∧ ∃ v E, SlotAt P H o hs v E A ∧ SubH hs (E.ap A.h) ∧ K hs (A.put o.dst v (E.ap A.h))) := by
  by_cases hb : dcls H o ≠ .bar ∨ aWanted ops A o = some false
  · obtain ⟨v, E, q, k1⟩ := qs_of_stepD hb k
    have fin : ∀ (r : OR), Qv P A.h r v → K hs (A.put o.dst v A.h) → orK P A o.dst (fun B => ∃ hs', SubH hs' B.h ∧ K hs' B) Q r := by
      intro r hr hk
      rcases hr with rfl | ⟨f, args, rfl, hc⟩
      · exact ⟨hs, by rw [put_h]; exact hx, hk⟩
      · have := hc A.h (SubH.refl _)
        intro M0 m w cargs hS ha
        obtain ⟨h1, h2⟩ := this M0 m w cargs hS ha
        refine ⟨h1, h2.mono fun _ _ hb => ?_⟩
        obtain ⟨r, h', m', ⟨rfl, rfl⟩, rest⟩ := hb
        exact ⟨.ret v, _, m', ⟨hs, by rw [put_h]; exact hx, hk⟩, rest⟩
    rcases q with ⟨hw, rfl, rfl⟩ | ⟨hw, ⟨hc, rfl, q⟩ | ⟨hc, rfl, q⟩ | ⟨hc, t, rfl, q⟩ | q | ⟨hc, T, a, x, id, ver, i, kk, ob, h1, h2, h3, h4, rfl, rfl⟩ | ⟨hc, rfl, rfl, T, a, x, h1, h2⟩⟩
    · exact .inl ⟨hw, by simpa [HE.ap] using k1⟩
    · exact .inr (.inl ⟨hw, fin _ q (by simpa [HE.ap] using k1)⟩)
    · refine .inr (.inl ⟨hw, fin _ ?_ (by simpa [HE.ap] using k1)⟩)
      have hpre := pre_op (P := P) (mu := mutOf H) (o := o) A.eval (dcls_low hc) hs A.h hx
      rcases q with q | ⟨f, args, q, hcall⟩
      · exact .inl (hpre.1 _ q)
      · exact .inr ⟨f, args, hpre.2 _ _ q, fun h' hs' => hcall h' (hx.trans hs')⟩
    · refine .inr (.inl ⟨hw, ?_⟩)
      rw [q]
      exact ⟨hs, by rw [put_h]; exact hx.trans (SubH.app _ _), k1⟩
    · refine .inr (.inr ⟨hw, v, E, q, ?_, k1⟩)
      obtain ⟨j, sz, z, hc, h1, h2, h3, h4, rfl, rfl⟩ := q
      exact subH_set hx h3 _
    · refine .inr (.inl ⟨hw, ?_⟩)
      have hop : aOp P (mutOf H) o A.eval A.h = .skip (A.h.set id ob) := by
        unfold aOp
        rw [h1]
        show aStore P T (A.eval a) (A.eval x) A.h = _
        rw [h2]; exact h4
      rw [hop]
      exact ⟨hs, by rw [put_h]; exact subH_set hx h3 _, k1⟩
    · refine .inr (.inl ⟨hw, ?_⟩)
      have hop : aOp P (mutOf H) o A.eval A.h = .skip A.h := by
        unfold aOp
        rw [h1]
        exact h2
      rw [hop]
      exact ⟨hs, by rw [put_h]; exact hx, by simpa [HE.ap] using k1⟩
  · have hb1 : dcls H o = .bar := Classical.byContradiction fun hn => hb (.inl hn)
    unfold stepD at k
    cases hw : aWanted ops A o with
    | none => rw [hw] at k; exact k.elim
    | some b =>
      rw [hw, hb1] at k
      cases b with
      | false => exact absurd (.inr hw) hb
      | true =>
        have k1 : orK P A o.dst (fun B => K B.h B) Q (aOp P (mutOf H) o A.eval A.h) := k.1 rfl
        exact .inr (.inl ⟨rfl, orK_mono (fun B hB => ⟨B.h, SubH.refl _, hB⟩) k1⟩)

theorem any_sim {n : Nat} {k : List Item} (hd : ops.toList.all (dstOk n) = true) : ∀ (fuel t : Nat) (listed : Array Bool) (hs : Heap) {m : List (Option Nat)} {A : AAct} {a : Act} {w : World}, SubH hs A.h →
    Rel P M0 S0 b cs0 m A a w → A.n = n → AnyW P H ops Q fuel listed hs A →
      Sim P M0 S0 b cs0 n (lone (b.atR a (.inRegion ops (Region.linearise.go .any ops fuel t listed []) :: k)) (csAt A.rc cs0) w) k Q := by
  intro fuel
  induction fuel with
  | zero =>
    intro t listed hs m A a w hx hr hn h
    exact ⟨.normal, A, m, a, w, h.2, hn, hr, .one (by simp only [Region.linearise.go, List.reverse_nil]; exact stepR_region_end)⟩
  | succ fuel ih =>
    intro t listed hs m A a w hx hr hn h
    obtain ⟨h0, h1⟩ := h
    have hgo : Region.linearise.go .any ops (fuel + 1) t listed [] = match (Region.ready .any ops listed)[t % (Region.ready .any ops listed).length]? with
      | some i => Region.linearise.go .any ops fuel (t / (Region.ready .any ops listed).length) (listed.setIfInBounds i true) [i]
      | none => [].reverse := rfl
    rw [hgo]
    cases hi : (Region.ready .any ops listed)[t % (Region.ready .any ops listed).length]? with
    | none =>
      have hnil : Region.ready .any ops listed = [] := by
        cases hrr : Region.ready .any ops listed with
        | nil => rfl
        | cons x xs =>
          rw [hrr] at hi
          have hlt : t % (x :: xs).length < (x :: xs).length := Nat.mod_lt _ (by simp)
          simp at hi
          simp at hlt
          omega
      exact ⟨.normal, A, m, a, w, h0 hnil, hn, hr, .one (by simp only [List.reverse_nil]; exact stepR_region_end)⟩
    | some i =>
      simp only []
      rw [linearise_go_acc, List.reverse_singleton, List.singleton_append]
      have hmem := List.mem_of_getElem? hi
      obtain ⟨_, o, ho, _⟩ := mem_ready.1 hmem
      have hstep := h1 i hmem o ho
      have hdo : dstOk A.n o = true := by
        rw [hn]
        exact List.all_eq_true.1 hd o (Array.mem_toList_iff.2 (Array.mem_of_getElem? ho))
      rcases stepD_or hx hstep with ⟨hw, hk⟩ | ⟨hw, hk⟩ | ⟨hw, v, E, hsl, hxs, hk⟩
      · have hwm := hr.wanted hw
        have hs1 := stepR_op_skip (P := P) (b := b) (k := k) (cs := csAt A.rc cs0) (w := w) (rest := Region.linearise.go .any ops fuel (t / (Region.ready .any ops listed).length) (listed.setIfInBounds i true) []) (wanted_false ho hwm)
        simp only [ho, Option.bind_some] at hs1
        have hr' := hr.put (dst := o.dst) (dst_lt hdo) (undef_rep _ _)
        have := ih (t / (Region.ready .any ops listed).length) (listed.setIfInBounds i true) hs (by rw [put_h]; exact hx) hr' ((put_n _ _ _ _).trans hn) hk
        rw [put_rc] at this
        exact this.of_steps (.one hs1)
      · have hwm := hr.wanted hw
        rcases op_step (i := i) (rest := Region.linearise.go .any ops fuel (t / (Region.ready .any ops listed).length) (listed.setIfInBounds i true) []) (k := k) ho hdo hwm hr hk with ⟨A', m', a', w', ⟨hs', hx', hK⟩, hn', hr', hs1⟩ | ⟨v, A', m', a', w', v', todo, hQ, hn', hr', hv, hs1⟩
        · exact (ih _ _ hs' hx' hr' (hn'.trans hn) hK).of_steps hs1
        · exact ⟨.panic v, A', m', a', w', hQ, hn'.trans hn, hr', v', todo, hv, hs1⟩
      · have hwm := hr.wanted hw
        obtain ⟨j, sz, z, hc, g1, g2, g3, g4, rfl, rfl⟩ := hsl
        have hso := dcls_slot hc
        have hnd : ∀ c, o.op ≠ .defer c := by
          intro c hcc
          rw [hcc] at hso
          cases hso
        have hok := slot_ok (P := P) (o := o) hr.hok g4 hr.eval g1 g2
        obtain ⟨m', a', w', hr', hs1⟩ := op_step_val (i := i) (rest := Region.linearise.go .any ops fuel (t / (Region.ready .any ops listed).length) (listed.setIfInBounds i true) []) (k := k) ho hdo hwm hr hnd hok
        have := ih (t / (Region.ready .any ops listed).length) (listed.setIfInBounds i true) hs (by rw [put_h]; exact hxs) hr' ((put_n _ _ _ _).trans hn) hk
        rw [put_rc] at this
        exact this.of_steps hs1

theorem maskL_sub : ∀ (l : List Nat) (h : Heap), SubH (maskL h l) h ∧ (maskL h l).length = h.length
  | [], h => ⟨SubH.refl _, rfl⟩
  | id :: l, h => by
    obtain ⟨h1, h2⟩ := maskL_sub l (h.set id .dead)
    refine ⟨h1.trans fun x o ho hn => ?_, by rw [maskL, h2]; simp⟩
    by_cases hxi : id = x
    · subst hxi
      have hlt := (List.getElem?_eq_some_iff.1 ho).1
      rw [List.getElem?_set_self (by simpa using hlt)] at ho
      cases ho
      cases hn
    · rwa [List.getElem?_set_ne hxi] at ho
theorem drawHs_sub (H : Hints) (ops : List Oper) (A : AAct) : SubH (drawHs H ops A) (drawA H ops A).h := by
  intro x o ho hn
  obtain ⟨h1, h2⟩ := maskL_sub (stoIds H A.tmps ops) A.h
  unfold drawHs at ho
  show (A.h ++ _)[x]? = _
  rcases Nat.lt_or_ge x A.h.length with hl | hl
  · rw [List.getElem?_append_left (by omega)] at ho
    rw [List.getElem?_append_left hl]
    exact h1 x o ho hn
  · rw [List.getElem?_append_right (by omega)] at ho
    have := List.mem_of_getElem? ho
    simp only [List.mem_map] at this
    obtain ⟨_, _, rfl⟩ := this
    cases hn

theorem Rel.drew {m : List (Option Nat)} {A : AAct} {a : Act} {w : World} (hr : Rel P M0 S0 b cs0 m A a w) : Rel P M0 S0 b cs0 m A a { w with drawn := w.drawn + 1 } :=
  hr.ahead (Ev.drew _ ⟨m, A.h, w⟩) (HOk.drew hr.hok)

theorem drawLaw (hm : P.follows .mixedOrders = true) : DrawLaw P := by
  intro M0 S0 b cs0 m A a w H ops Q n id k hd hok hr hn h
  have hany := draw_any hok ops.toList 0 _ _ rfl h
  rw [firsts_zero, Nat.sub_zero] at hany
  obtain ⟨m', hr'⟩ := hr.resv (resvs H ops.toList)
  have hs := stepR_region_draw (P := P) (b := b) (a := a) (k := k) (cs := csAt A.rc cs0) (w := w) (ops := ops) (id := id)
  refine Sim.of_steps (.one hs) ?_
  simp only [Region.schedule, hm, Bool.true_or, if_true]
  exact any_sim (A := drawA H ops.toList A) hd ops.size _ _ _ (drawHs_sub H ops.toList A) hr'.drew hn hany

end Abs
end Go.Proofs.Ythekmbikolpmlaa
