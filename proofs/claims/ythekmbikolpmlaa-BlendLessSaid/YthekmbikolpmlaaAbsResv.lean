/-
  LAWS: places that are kept for variables; a variable laid into one.
-/
import Derived.Test.YthekmbikolpmlaaAbsSim
namespace Go.Proofs.Ythekmbikolpmlaa
namespace Abs
variable {P : Program} {M0 : Nat → Prop}

/-! an empty row in place of a nil slice -/
def Mem.nil (S : Mem) (sz : Nat) : Mem := ⟨S.m ++ [none], S.h ++ [.row sz []], S.w⟩
theorem Ev.nil {S : Mem} (hS : HOk M0 S) (sz : Nat) : Ev S.h.length S (S.nil sz) where
  fr := Fr.refl _ _
  sub := fun b h => by
    have h' : some b ∈ S.m ++ [none] := h
    simp at h'
    exact .inl h'
  obj := fun id o hid ho => by
    refine ⟨o, ?_, ?_⟩
    · show (S.h ++ [AObj.row sz []])[id]? = _
      rw [List.getElem?_append_left hid]; exact ho
    · have : (S.nil sz).m.getD id none = S.m.getD id none := by
        show (S.m ++ [none]).getD id none = _
        have := hS.len
        simp [List.getElem?_append_left (show id < S.m.length by omega)]
      rw [this]
      exact ObjEv.refl _ _
theorem hok_nil_row {S : Mem} (hS : HOk M0 S) (sz : Nat) : HOk M0 (S.nil sz) where
  len := by simp [Mem.nil, hS.len]
  lt := fun b h => by
    have h' : some b ∈ S.m ++ [none] := h
    simp at h'
    exact hS.lt b h'
  m0 := fun b h => ⟨(hS.m0 b h).1, fun hn => by
    have h' : some b ∈ S.m ++ [none] := hn
    simp at h'
    exact (hS.m0 b h).2 h'⟩
  inj := fun i j b hi hj => by
    have key : ∀ k : Nat, (S.m ++ [none])[k]? = some (some b) → S.m[k]? = some (some b) := by
      intro k hk
      rcases Nat.lt_or_ge k S.m.length with h | h
      · rwa [List.getElem?_append_left h] at hk
      · rw [List.getElem?_append_right h] at hk
        cases hx : k - S.m.length with
        | zero => rw [hx] at hk; simp at hk
        | succ x => rw [hx] at hk; simp at hk
    exact hS.inj i j b (key i hi) (key j hj)
  obj := fun id o hid => by
    have hid' : (S.h ++ [AObj.row sz []])[id]? = some o := hid
    rcases Nat.lt_or_ge id S.h.length with h | h
    · rw [List.getElem?_append_left h] at hid'
      have hm : (S.nil sz).m.getD id none = S.m.getD id none := by
        show (S.m ++ [none]).getD id none = _
        have := hS.len
        simp [List.getElem?_append_left (show id < S.m.length by omega)]
      rw [hm]
      exact (hS.obj id o hid').keep (Ev.nil hS sz) fun _ _ => rfl
    · rw [List.getElem?_append_right h] at hid'
      cases hx : id - S.h.length with
      | succ x => rw [hx] at hid'; simp at hid'
      | zero =>
        rw [hx] at hid'
        simp at hid'
        subst hid'
        have hm : (S.nil sz).m.getD id none = none := by
          show (S.m ++ [none]).getD id none = _
          have := hS.len
          rw [List.getD_eq_getElem?_getD, List.getElem?_append_right (by omega), show id - S.m.length = 0 by omega]
          rfl
        rw [hm]
        exact .inl ⟨rfl, rfl⟩

/-- places are kept -/
theorem Rel.resv {S0 : Mem} {b : Frame} {cs0 : List Frame} {a : Act} {w : World} : ∀ (l : List Nat) {m : List (Option Nat)} {A : AAct}, Rel P M0 S0 b cs0 m A a w → ∃ m', Rel P M0 S0 b cs0 m' { A with h := A.h ++ l.map fun sz => .row sz [] } a w
  | [], m, A, hr => ⟨m, by simpa using hr⟩
  | sz :: l, m, A, hr => by
    have hk := hok_nil_row (S := ⟨m, A.h, w⟩) hr.hok sz
    have hev := Ev.nil (S := ⟨m, A.h, w⟩) hr.hok sz
    have hr1 := hr.ahead (m' := m ++ [none]) (h' := A.h ++ [.row sz []]) (w' := w) hev hk
    obtain ⟨m', h⟩ := Rel.resv l hr1
    refine ⟨m', ?_⟩
    simpa using h

theorem slotVar_ok {S : Mem} (hS : HOk M0 S) {id sz : Nat} (hid : S.h[id]? = some (.row sz [])) {T : TypeId} {x : AV} {v : Value} {cs : List AV} (hx : Rep M0 S v x) (hc : x.cells = some cs) (hl : cs.length = sz) :
    ValOk P M0 S (do pure (.pointer (some (← newVar T v)))) (.val (.ptr id 1 0 0) (S.h.set id (.row sz [x]))) := by
  obtain ⟨hn, hr⟩ := rep_cells hx hc
  have hlt := (List.getElem?_eq_some_iff.1 hid).1
  have e := Ev.regrow S.h.length (ob := .cells v.cells T) (xs' := [x]) hid (by simp)
  have hel : ElemsOk M0 (S.regrow id (.row sz [x]) (.cells v.cells T)) sz v.cells [x] := by
    intro i y hy
    cases i with
    | zero =>
      simp at hy; subst hy
      exact ⟨cs, hc, hl, fun j c hj => ⟨(hr j c hj).1, by simpa using e.keepS (hr j c hj).2⟩⟩
    | succ i => simp at hy
  have hel0 : ElemsOk M0 S sz v.cells [x] := by
    intro i y hy
    cases i with
    | zero =>
      simp at hy; subst hy
      exact ⟨cs, hc, hl, fun j c hj => ⟨(hr j c hj).1, by simpa using (hr j c hj).2⟩⟩
    | succ i => simp at hy
  have hk := HOk.regrow (T := T) hS hid (xs' := [x]) (by simp) (by simp [hn, hl]) hel0
  refine ⟨S.regrow id (.row sz [x]) (.cells v.cells T), .pointer (some ⟨S.w.heap.size, 0, none⟩), rfl, ?_, e, hk, ⟨_, rfl⟩, .inr ⟨sz, [x], ?_, by simp, fun _ => ⟨S.w.heap.size, ?_, by simp⟩⟩⟩
  · simp [newVar, newRow, Mem.regrow]
  · simp [Mem.regrow, hlt]
  · have := hS.len
    simp [Mem.regrow, List.getD_eq_getElem?_getD, List.getElem?_set_self (show id < S.m.length by omega)]

theorem slot_ok {S : Mem} (hS : HOk M0 S) {id sz : Nat} (hid : S.h[id]? = some (.row sz [])) {o : Oper} {e : Operand → AV} {ρ : Operand → Value} (he : ∀ x, Rep M0 S (ρ x) (e x)) {z : AV} (hz : slotVal P e o.op = some z)
    (hl : z.cells.map (·.length) = some sz) : OpOk P M0 S (execOp ρ o) (.val (.ptr id 1 0 0) (S.h.set id (.row sz [z]))) := by
  simp only [Option.map_eq_some_iff] at hl
  obtain ⟨cs, hc, hl⟩ := hl
  unfold slotVal at hz
  split at hz
  · rename_i T hop
    simp only [Option.map_eq_some_iff] at hz
    obtain ⟨q, hq, rfl⟩ := hz
    unfold execOp
    rw [hop]
    dsimp only
    obtain ⟨v, hv, hcz⟩ := zeroT_some hq S.w
    have hrep : Rep M0 S v (.p q) := constPV_rep hcz
    obtain ⟨S', v', h1, h2, h3⟩ := slotVar_ok (P := P) hS hid (T := T) hrep hc hl
    refine ValOk.op (r := .val _ _) ⟨S', v', h1, ?_, h3⟩
    simp only [Sem.run_bind] at h2
    unfold Instr.alloc
    simp only [Sem.run_bind, hv, Result.andThen_ok]
    exact h2
  · rename_i T x hop
    cases hz
    unfold execOp
    rw [hop]
    dsimp only
    exact (slotVar_ok hS hid (he x) hc hl).op
  · cases hz

/-- an operation with one outcome is carried out -/
theorem op_step_val {S0 : Mem} {b : Frame} {cs0 : List Frame} {m : List (Option Nat)} {A : AAct} {a : Act} {w : World} {o : Oper} {i : Nat} {rest : List Nat} {ops : Array Oper} {k : List Item} {v : AV} {h' : Heap}
    (ho : ops[i]? = some o) (hd : dstOk A.n o = true) (hw : Region.wanted o (yielded ops a.tmps) = true) (hr : Rel P M0 S0 b cs0 m A a w) (hnd : ∀ c, o.op ≠ .defer c) (hok : OpOk P M0 ⟨m, A.h, w⟩ (execOp a.eval o) (.val v h')) :
    ∃ m' a' w', Rel P M0 S0 b cs0 m' (A.put o.dst v h') a' w' ∧ Steps P (lone (b.atR a (.inRegion ops (i :: rest) :: k)) (csAt A.rc cs0) w) (lone (b.atR a' (.inRegion ops rest :: k)) (csAt A.rc cs0) w') := by
  have hfin : ∀ (a' : Act) v, (b.atR a' (.inRegion ops (i :: rest) :: k)).finish v = b.atR (a'.put o.dst v) (.inRegion ops rest :: k) := by
    intro a' v; rw [Frame.finish_atR, ho]; rfl
  have hg := stepGR_op (P := P) (b := b) (k := k) (cs := csAt A.rc cs0) (w := w) (rest := rest) ho hw
  obtain ⟨⟨m', h1, w'⟩, v', rfl, hrun, hev, hhk, hrep⟩ := hok
  rw [hr.semAt (.inl hnd)] at hg
  have hr' := (hr.ahead hev hhk).put (dst := o.dst) (dst_lt hd) hrep
  rw [← put_heap] at hr'
  refine ⟨m', _, w', hr', ?_⟩
  rw [← hfin]
  exact .one (step_lone_go (by rw [hg]; simp only at hrun; simp [stepG.apply, hrun]))

end Abs
end Go.Proofs.Ythekmbikolpmlaa
