/-
  LAWS: regions of any order: what the order of the text comes to, every order comes to.
-/
import Derived.Test.YthekmbikolpmlaaAbsResv
import Derived.Orders
namespace Go.Proofs.Ythekmbikolpmlaa
namespace Abs
variable {P : Program} {H : Hints} {ops : Array Oper} {Q : Ex → AAct → Prop}

/-! ### an operation looks at its operands alone -/
theorem aOp_congr {mu : Nat → Bool} {e e' : Operand → AV} {h : Heap} (o : Oper) (he : ∀ x ∈ o.op.operands, e x = e' x) : aOp P mu o e h = aOp P mu o e' h := by
  obtain ⟨dst, op, type, pos, after, guard⟩ := o
  have pairs : ∀ ps : Array (Nat × Operand), (∀ x ∈ ps.map (·.2), e x = e' x) → (ps.toList.map fun q => (q.1, e q.2)) = (ps.toList.map fun q => (q.1, e' q.2)) := fun ps hp =>
    List.map_congr_left fun q hm => by
      simp only [hp q.2 (Array.mem_map.2 ⟨q, Array.mem_toList_iff.1 hm, rfl⟩)]
  have lists : ∀ xs : Array Operand, (∀ x ∈ xs, e x = e' x) → xs.toList.map e = xs.toList.map e' := fun xs hp =>
    List.map_congr_left fun x hm => hp x (Array.mem_toList_iff.1 hm)
  cases op <;> simp only [Op.operands] at he <;> simp only [aOp]
  case build t ps => rw [pairs ps fun x hx => he x (by simpa using hx)]
  case buildSlice t n ps => rw [pairs ps fun x hx => he x (by simpa using hx)]
  case makeFunc fn first cap => rw [lists first fun x hx => he x (by simp [hx]), lists cap fun x hx => he x (by simp [hx])]
  case slice t x lo hi mx =>
    have h0 : e x = e' x := he x (by simp)
    have h1 : lo.map e = lo.map e' := by cases lo with | none => rfl | some y => simp only [Option.map_some, he y (by simp)]
    have h2 : hi.map e = hi.map e' := by cases hi with | none => rfl | some y => simp only [Option.map_some, he y (by simp)]
    have h3 : mx.map e = mx.map e' := by cases mx with | none => rfl | some y => simp only [Option.map_some, he y (by simp)]
    rw [h0, h1, h2, h3]
  case call c =>
    have ha : c.args.toList.map e = c.args.toList.map e' := lists c.args fun x hx => he x (by simp [Call.operands, hx])
    cases hc : c.callee with
    | value f => simp only [ha, he f (by simp [Call.operands, hc])]
    | builtin b => simp only [ha]
    | invoke r mm => rfl
  case defer c =>
    have ha : c.args.toList.map e = c.args.toList.map e' := lists c.args fun x hx => he x (by simp [Call.operands, hx])
    cases hc : c.callee with
    | value f => simp only [ha, he f (by simp [Call.operands, hc])]
    | builtin b => rfl
    | invoke r mm => rfl
  all_goals (first | rfl | (simp_all; done))

theorem eval_put {A : AAct} {dst : Option Tmp} {v : AV} {h : Heap} {x : Operand} (hx : ∀ d, dst = some d → x ≠ .tmp d) : (A.put dst v h).eval x = A.eval x := by
  cases dst with
  | none => rfl
  | some d =>
    cases x with
    | tmp t =>
      have : t ≠ d := fun e => hx d rfl (e ▸ rfl)
      simp [AAct.put, AAct.eval, upd, this]
    | _ => rfl
theorem aOp_put {mu : Nat → Bool} {A : AAct} {dst : Option Tmp} {v : AV} {h h' : Heap} {o : Oper} (hd : ∀ d, dst = some d → d ∉ o.looksAt ops) :
    aOp P mu o (A.put dst v h').eval h = aOp P mu o A.eval h :=
  aOp_congr o fun x hx => eval_put fun d hdd hxd => hd d hdd (by
    subst hxd
    exact List.mem_append_left _ (List.mem_filterMap.2 ⟨.tmp d, by simpa using hx, rfl⟩))
theorem aWanted_put {A : AAct} {dst : Option Tmp} {v : AV} {h : Heap} {o : Oper} (hd : ∀ d, dst = some d → d ∉ o.looksAt ops) : aWanted ops (A.put dst v h) o = aWanted ops A o := by
  cases dst with
  | none => rfl
  | some d =>
    unfold aWanted
    cases hg : o.guard with
    | none => rfl
    | some gw =>
      obtain ⟨g, want⟩ := gw
      simp only
      unfold guardAt
      cases ht : (ops[g]?).bind (·.dst) with
      | none => rfl
      | some t =>
        have hne : t ≠ d := fun e => hd d rfl (by subst e; simp [Oper.looksAt, hg, ht])
        simp [AAct.put, upd, hne]
theorem put_comm (A : AAct) {x y : Option Tmp} (v u : AV) (h1 h2 h3 : Heap) (h : ∀ d, x = some d → y ≠ some d) : (A.put x v h1).put y u h2 = (A.put y u h3).put x v h2 := by
  cases x with
  | none => cases y <;> rfl
  | some d =>
    cases y with
    | none => rfl
    | some e =>
      have hne : d ≠ e := fun he => h d rfl (he ▸ rfl)
      simp only [AAct.put, AAct.mk.injEq, true_and, and_true]
      funext s
      simp only [upd]
      by_cases h1 : s = d
      · by_cases h2 : s = e
        · exact absurd (h1.symm.trans h2) hne
        · simp [h1, hne]
      · simp [h1]

/-! ### quiet operations, with more memory behind -/
theorem SubH.refl (h : Heap) : SubH h h := fun _ _ e _ => e
theorem SubH.trans {a b c : Heap} (h : SubH a b) (k : SubH b c) : SubH a c := fun id o e hd => k id o (h id o e hd) hd
theorem SubH.app (h u : Heap) : SubH h (h ++ u) := fun id o e _ => by
  rw [List.getElem?_append_left (List.getElem?_eq_some_iff.1 e).1]; exact e
theorem get_pre {h u : Heap} (hs : SubH h u) {id sz : Nat} {xs : List AV} (hl : h[id]? = some (.row sz xs)) : u[id]? = some (.row sz xs) := hs id _ hl rfl
theorem liveRow_pre {h u : Heap} (hs : SubH h u) {id ver sz : Nat} (hl : liveRow h id ver = some sz) : liveRow u id ver = some sz := by
  obtain ⟨xs, h1, h2⟩ := liveRow_some hl
  simp [liveRow, get_pre hs h1, h2]

/-- from a heap on to a longer one -/
def Pre (F : Heap → OR) (h u : Heap) : Prop := (∀ v, F h = .val v h → F u = .val v u) ∧ ∀ f a, F h = .call f a → F u = .call f a

theorem Pre.const {F : Heap → OR} {h u : Heap} (k : (∃ v, ∀ h, F h = .val v h) ∨ (∃ f a, ∀ h, F h = .call f a) ∨ ((∀ v, F h ≠ .val v h) ∧ ∀ f a, F h ≠ .call f a)) : Pre F h u := by
  rcases k with ⟨v, k⟩ | ⟨f, a, k⟩ | ⟨k1, k2⟩
  · refine ⟨fun v' e => ?_, fun f a e => ?_⟩
    · rw [k] at e; cases e; exact k _
    · rw [k] at e; cases e
  · refine ⟨fun v' e => ?_, fun f a e => ?_⟩
    · rw [k] at e; cases e
    · rw [k] at e; cases e; exact k _
  · exact ⟨fun v e => absurd e (k1 v), fun f a e => absurd e (k2 f a)⟩

theorem stuck_pre {h : Heap} {X : AV → Prop} {Y : FuncId → List AV → Prop} : (∀ v, OR.stuck = OR.val v h → X v) ∧ ∀ f a, OR.stuck = OR.call f a → Y f a :=
  ⟨fun _ e => (by cases e), fun _ _ e => (by cases e)⟩
theorem pre_opt (v : Option AV) (h u : Heap) : Pre (fun h => optVal h v) h u := by
  cases v with
  | none => exact .const (.inr (.inr ⟨fun v => by simp [optVal], fun f a => by simp [optVal]⟩))
  | some v => exact .const (.inl ⟨v, fun _ => rfl⟩)
theorem pre_optP (v : Option PV) (h u : Heap) : Pre (fun h => optP h v) h u := by
  cases v with
  | none => exact .const (.inr (.inr ⟨fun v => by simp [optP], fun f a => by simp [optP]⟩))
  | some v => exact .const (.inl ⟨.p v, fun _ => rfl⟩)
theorem pre_stuck (h u : Heap) : Pre (fun _ => .stuck) h u := .const (.inr (.inr ⟨fun v => by simp, fun f a => by simp⟩))
theorem pre_val (v : AV) (h u : Heap) : Pre (fun h => .val v h) h u := .const (.inl ⟨v, fun _ => rfl⟩)

theorem pre_load (T : TypeId) (x : AV) (h u : Heap) (hs : SubH h u) : Pre (aLoad P T x) h u := by
  cases x with
  | p q =>
    cases q with
    | ptr sz xs i o =>
      show Pre (fun h => match xs[i]? with | some v => optVal h (loadT P T (.p v) o) | none => .stuck) h u
      cases xs[i]? with
      | none => exact pre_stuck h u
      | some v => exact pre_opt _ h u
    | _ => exact pre_stuck h u
  | ptr id ver i o =>
    unfold Pre aLoad
    dsimp only
    cases hid : h[id]? with
    | none => exact stuck_pre
    | some ob =>
      cases ob with
      | row sz xs =>
        rw [get_pre hs hid]
        dsimp only
        split
        · cases xs[i]? with
          | none => exact stuck_pre
          | some v => exact pre_opt _ h u
        · exact stuck_pre
      | _ => exact stuck_pre
  | _ => exact pre_stuck h u
theorem pre_live {id ver : Nat} {v : AV} (h u : Heap) (hs : SubH h u) : Pre (fun h => match liveRow h id ver with | some _ => .val v h | none => .stuck) h u := by
  unfold Pre
  dsimp only
  cases hl : liveRow h id ver with
  | none => exact stuck_pre
  | some sz => rw [liveRow_pre hs hl]; exact ⟨fun v e => (by cases e; rfl), fun f a e => (by cases e)⟩
theorem pre_fieldAddr (T : TypeId) (x : AV) (f : Nat) (h u : Heap) (hs : SubH h u) : Pre (aFieldAddr P T x f) h u := by
  unfold aFieldAddr
  cases fieldT P T f with
  | none => exact pre_stuck h u
  | some q =>
    obtain ⟨off, t⟩ := q
    dsimp only
    cases sizeT P t with
    | none => exact pre_stuck h u
    | some n =>
      dsimp only
      by_cases hn : n = 0
      · simp only [hn, if_true]; exact pre_stuck h u
      · simp only [hn, if_false]
        cases x with
        | p q => cases q <;> first | exact pre_val _ h u | exact pre_stuck h u
        | ptr id ver i o => exact pre_live h u hs
        | _ => exact pre_stuck h u
theorem pre_field (T : TypeId) (x : AV) (f : Nat) (h u : Heap) : Pre (aField P T x f) h u := by
  unfold aField
  cases fieldT P T f with
  | none => exact pre_stuck h u
  | some q =>
    obtain ⟨off, t⟩ := q
    cases x with
    | p q => cases q <;> first | exact pre_opt _ h u | exact pre_stuck h u
    | agg cs => exact pre_opt _ h u
    | _ => exact pre_stuck h u

theorem pre_ite {c : Prop} [Decidable c] {F : Heap → OR} {h u : Heap} (k : Pre F h u) : Pre (fun h => if c then F h else .stuck) h u := by
  by_cases hc : c
  · simp only [hc, if_true]; exact k
  · simp only [hc, if_false]; exact pre_stuck h u
theorem pre_ret {v : AV} {h u : Heap} : (∀ v', OR.val v h = .val v' h → OR.val v u = .val v' u) ∧ ∀ f a, OR.val v h = .call f a → OR.val v u = .call f a :=
  ⟨fun v' e => (by cases e; rfl), fun f a e => (by cases e)⟩
theorem pre_indexAddr (T : TypeId) (x ix : AV) (h u : Heap) (hs : SubH h u) : Pre (aIndexAddr P T x ix) h u := by
  cases ix with
  | p qi =>
    cases qi with
    | int k i =>
      cases x with
      | p q =>
        cases q with
        | slice sz xs full =>
          unfold Pre aIndexAddr
          dsimp only
          cases sliceT P T with
          | none => exact stuck_pre
          | some e => exact pre_ite (pre_val _ h u)
        | ptr sz xs j o =>
          unfold Pre aIndexAddr
          dsimp only
          cases arrayT P T with
          | none => exact stuck_pre
          | some q =>
            obtain ⟨n, e⟩ := q
            dsimp only
            cases sizeT P e with
            | none => exact stuck_pre
            | some s => exact pre_ite (pre_val _ h u)
        | _ => exact pre_stuck h u
      | slice id ver off len =>
        unfold Pre aIndexAddr
        dsimp only
        cases sliceT P T with
        | none => exact stuck_pre
        | some e =>
          cases hid : h[id]? with
          | none => exact stuck_pre
          | some ob =>
            cases ob with
            | row sz xs =>
              rw [get_pre hs hid]
              exact pre_ite (pre_val _ h u)
            | _ => exact stuck_pre
      | ptr id ver j o =>
        unfold Pre aIndexAddr
        dsimp only
        cases arrayT P T with
        | none => exact stuck_pre
        | some q =>
          obtain ⟨n, e⟩ := q
          dsimp only
          cases sizeT P e with
          | none => exact stuck_pre
          | some s =>
            cases hl : liveRow h id ver with
            | none => exact stuck_pre
            | some z => rw [liveRow_pre hs hl]; exact pre_ite (pre_val _ h u)
      | _ => exact pre_stuck h u
    | _ => exact pre_stuck h u
  | _ => exact pre_stuck h u
theorem pre_index (T : TypeId) (x ix : AV) (h u : Heap) : Pre (aIndex P T x ix) h u := by
  have agg : ∀ (x : AV) (i : Int), Pre (fun h => match arrayT P T with
      | some (n, e) => match sizeT P e with | some s => if 0 ≤ i ∧ i < n then optVal h (loadT P e x (i.toNat * s)) else .stuck | none => .stuck
      | none => .stuck) h u := by
    intro x i
    cases arrayT P T with
    | none => exact pre_stuck h u
    | some q =>
      obtain ⟨n, e⟩ := q
      dsimp only
      cases sizeT P e with
      | none => exact pre_stuck h u
      | some s => exact pre_ite (pre_opt _ h u)
  cases ix with
  | p qi =>
    cases qi with
    | int k i =>
      cases x with
      | p q =>
        cases q with
        | str s =>
          refine pre_ite ?_
          cases s[i.toNat]? with
          | none => exact pre_stuck h u
          | some b => exact pre_val _ h u
        | agg cs => exact agg _ i
        | _ => exact pre_stuck h u
      | agg cs => exact agg _ i
      | _ => exact pre_stuck h u
    | _ => exact pre_stuck h u
  | _ => exact pre_stuck h u
theorem pre_slice (T : TypeId) (x : AV) (lo hi mx : Option AV) (h u : Heap) (hs : SubH h u) : Pre (aSlice P T x lo hi mx) h u := by
  unfold Pre aSlice
  cases numOf lo with
  | none => exact stuck_pre
  | some l =>
    cases numOf hi with
    | none => exact stuck_pre
    | some r =>
      cases numOf mx with
      | none => exact stuck_pre
      | some m =>
        cases x with
        | p q =>
          cases q with
          | slice sz xs full =>
            dsimp only
            cases sliceT P T with
            | none => exact stuck_pre
            | some e =>
              cases cutAt l r xs.length with
              | none => exact stuck_pre
              | some ab =>
                cases m with
                | none => exact pre_ite (pre_val _ h u)
                | some m => exact pre_ite (pre_ite (pre_val _ h u))
          | str s =>
            dsimp only
            cases cutAt l r s.size with
            | none => exact stuck_pre
            | some ab =>
              cases m with
              | none => exact pre_ite (pre_val _ h u)
              | some m => exact stuck_pre
          | nilslice =>
            dsimp only
            cases sliceT P T with
            | none => exact stuck_pre
            | some e =>
              cases cutAt l r 0 with
              | none => exact stuck_pre
              | some ab =>
                cases m with
                | none => exact pre_ite (pre_val _ h u)
                | some m => exact stuck_pre
          | _ => exact stuck_pre
        | slice id ver off len =>
          dsimp only
          cases sliceT P T with
          | none => exact stuck_pre
          | some e =>
            cases hid : h[id]? with
            | none => exact stuck_pre
            | some ob =>
              cases ob with
              | row sz xs =>
                rw [get_pre hs hid]
                cases cutAt l r len with
                | none => exact stuck_pre
                | some ab =>
                  cases m with
                  | none => exact pre_ite (pre_val _ h u)
                  | some m => exact stuck_pre
              | _ => exact stuck_pre
        | _ => exact stuck_pre
theorem pre_len (T : TypeId) (x : AV) (h u : Heap) (hs : SubH h u) : Pre (aLen P T x) h u := by
  cases x with
  | p q =>
    cases q with
    | str s => exact pre_ite (pre_val _ h u)
    | slice sz xs full => exact pre_ite (pre_val _ h u)
    | nilslice => exact pre_ite (pre_val _ h u)
    | agg cs =>
      unfold Pre aLen
      dsimp only
      cases arrayT P T with
      | none => exact stuck_pre
      | some q => exact pre_val _ h u
    | _ => exact pre_stuck h u
  | slice id ver off len =>
    unfold Pre aLen
    dsimp only
    cases hl : liveRow h id ver with
    | none => simp only [Option.isSome_none, Bool.false_eq_true, and_false, if_false]; exact stuck_pre
    | some z => rw [liveRow_pre hs hl]; exact pre_ite (pre_val _ h u)
  | _ => exact pre_stuck h u
theorem pre_bin (op : BinOp) (T : TypeId) (c : Bool) (x y : AV) (h u : Heap) : Pre (aBin P op T c x y) h u := by
  unfold aBin
  split
  · split
    · exact pre_optP _ h u
    · split
      · exact pre_optP _ h u
      · exact pre_stuck h u
  · exact pre_optP _ h u
  · split
    · exact pre_optP _ h u
    · exact pre_optP _ h u
    · exact pre_stuck h u
theorem pre_un (op : UnOp) (x : AV) (h u : Heap) : Pre (aUn op x) h u := by
  unfold aUn
  split
  · exact pre_val _ h u
  · exact pre_val _ h u
  · exact pre_stuck h u
theorem pre_convert (a b : TypeId) (x : AV) (h u : Heap) : Pre (aConvert P a b x) h u := by
  unfold aConvert
  split
  · split
    · exact pre_val _ h u
    · exact pre_stuck h u
  · exact pre_ite (pre_val _ h u)
  · exact pre_stuck h u
theorem pre_extract (x : AV) (i : Nat) (h u : Heap) : Pre (aExtract x i) h u := by
  unfold aExtract
  split
  · split
    · exact pre_val _ h u
    · exact pre_stuck h u
  · split
    · exact pre_val _ h u
    · exact pre_stuck h u
  · exact pre_stuck h u
theorem pre_build (T : TypeId) (ps : List (Nat × AV)) (h u : Heap) : Pre (aBuild P T ps) h u := by
  unfold aBuild
  split
  · split
    · split
      · exact pre_val _ h u
      · exact pre_stuck h u
    · split
      · split
        · split
          · exact pre_val _ h u
          · exact pre_stuck h u
        · exact pre_stuck h u
      · exact pre_stuck h u
  · exact pre_stuck h u
theorem pre_buildSlice (T : TypeId) (mu : Bool) (n : Nat) (ps : List (Nat × AV)) (h u : Heap) : Pre (aBuildSlice P T mu n ps) h u := by
  unfold Pre aBuildSlice
  cases sliceT P T with
  | none => exact stuck_pre
  | some e =>
    dsimp only
    cases sizeT P e with
    | none => exact stuck_pre
    | some sz =>
      dsimp only
      cases aElems 0 sz ps with
      | none => exact stuck_pre
      | some xs =>
        dsimp only
        by_cases hc : xs.length = n ∧ sz ≠ 0 ∧ n * sz ≤ 16777216 ∧ hasZero P e sz = true
        · simp only [hc, and_self, not_false_eq_true, ne_eq, if_true]
          cases mu with
          | false =>
            cases pures xs with
            | some l => exact pre_val _ h u
            | none => exact ⟨fun v e => (by injection e with e1 e2; exact absurd (congrArg List.length e2) (by simp)), fun f a e => (by cases e)⟩
          | true => exact ⟨fun v e => (by injection e with e1 e2; exact absurd (congrArg List.length e2) (by simp)), fun f a e => (by cases e)⟩
        · simp only [hc, if_false]; exact stuck_pre
theorem pre_invoke (f : AV) (args : List AV) (h u : Heap) : Pre (fun _ => aInvoke f args) h u := by
  refine ⟨fun v e => ?_, fun f a e => e⟩
  dsimp only at e
  unfold aInvoke at e
  split at e <;> cases e

/-- a quiet operation, with more memory behind -/
theorem pre_op {mu : Nat → Bool} {o : Oper} (e : Operand → AV) (hq : isQuietOp o.op = true) (h u : Heap) (hs : SubH h u) : Pre (aOp P mu o e) h u := by
  obtain ⟨dst, op, type, pos, after, guard⟩ := o
  cases op <;> first | (simp only [isQuietOp, Bool.false_eq_true] at hq; done) | skip
  case move x => exact pre_val _ h u
  case assign x => exact pre_val _ h u
  case pick c a b =>
    unfold Pre aOp
    dsimp only
    split
    · exact pre_val _ h u
    · exact stuck_pre
  case build t ps => exact pre_build _ _ h u
  case buildSlice t n ps => exact pre_buildSlice _ _ _ _ h u
  case load t a => exact pre_load _ _ h u hs
  case nilCheck x =>
    unfold Pre aOp
    dsimp only
    split
    · exact pre_val _ h u
    · exact pre_live h u hs
    · exact stuck_pre
  case binOp op t x y ty => exact pre_bin _ _ _ _ _ h u
  case unOp op t x => exact pre_un _ _ h u
  case convert a b x => exact pre_convert _ _ _ h u
  case makeInterface t x =>
    unfold Pre aOp
    dsimp only
    split
    · split
      · exact pre_val _ h u
      · exact stuck_pre
    · exact stuck_pre
  case makeFunc f a c => exact pre_ite (pre_val _ h u)
  case slice t x lo hi mx => exact pre_slice _ _ _ _ _ h u hs
  case fieldAddr t x f => exact pre_fieldAddr _ _ _ h u hs
  case field t x f => exact pre_field _ _ _ h u
  case indexAddr t x i => exact pre_indexAddr _ _ _ h u hs
  case index t x i => exact pre_index _ _ _ h u
  case extract x i => exact pre_extract _ _ h u
  case call c =>
    unfold Pre aOp
    dsimp only
    cases hc : c.callee with
    | value f => exact pre_invoke _ _ h u
    | invoke r mm => simp [isQuietOp, hc] at hq
    | builtin b =>
      dsimp only
      cases b <;> first | (simp [isQuietOp, hc] at hq; done) | skip
      all_goals
        unfold aBuiltin
        split
        · exact pre_ite (pre_len _ _ h u hs)
        · simp_all
        · exact pre_val _ h u
        · exact pre_val _ h u
        · simp_all
        · exact stuck_pre

end Abs
end Go.Proofs.Ythekmbikolpmlaa
