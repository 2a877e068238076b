/-
  LAWS: regions of any order: what the order of the text comes to, every order comes to.
  LAWS: regions of any order: what the order of the text comes to, every order comes to.
  LAWS: regions of any order: what the order of the text comes to, every order comes to.
-/
import Derived.Test.YtdellinghbppgaaGreatDoorAbsSimT
import Derived.Orders
namespace Go.Proofs.YtdellinghbppgaaGreatDoor
namespace Abs
variable {P : Program} {H : Hints} {ops : Array Oper} {Q : Ex → AAct → Prop}

/-! ### an operation looks at its operands alone -/
theorem aOp_congr {mu : Nat → Bool} {e e' : Operand → AV} {h : Heap} (o : Oper) (he : ∀ x ∈ o.op.operands, e x = e' x) : aOp P mu o e h = aOp P mu o e' h := by
  obtain ⟨dst, op, type, pos, after, guard⟩ := o
  have pairs : ∀ ps : Array (Nat × Operand), (∀ x ∈ ps.map (·.2), e x = e' x) → (ps.toList.map fun q => (q.1, e q.2)) = (ps.toList.map fun q => (q.1, e' q.2)) := fun ps hp =>
    List.map_congr_left fun q hm => by
      simp only [hp q.2 (Array.mem_map.2 ⟨q, Array.mem_toList_iff.1 hm, rfl⟩)]
  have lists : ∀ xs : Array Operand, (∀ x ∈ xs, e x = e' x) → xs.toList.map e = xs.toList.map e' := fun xs hp =>
    List.map_congr_left fun x hm => hp x (Array.mem_toList_iff.1 hm)
  cases op <;> simp only [Op.operands] at he <;> simp only [aOp]
  case build t ps => rw [pairs ps fun x hx => he x (by simpa using hx)]
  case buildSlice t n ps => rw [pairs ps fun x hx => he x (by simpa using hx)]
  case makeFunc fn first cap => rw [lists first fun x hx => he x (by simp [hx]), lists cap fun x hx => he x (by simp [hx])]
  case slice t x lo hi mx =>
    have h0 : e x = e' x := he x (by simp)
    have h1 : lo.map e = lo.map e' := by cases lo with | none => rfl | some y => simp only [Option.map_some, he y (by simp)]
    have h2 : hi.map e = hi.map e' := by cases hi with | none => rfl | some y => simp only [Option.map_some, he y (by simp)]
    have h3 : mx.map e = mx.map e' := by cases mx with | none => rfl | some y => simp only [Option.map_some, he y (by simp)]
    rw [h0, h1, h2, h3]
  case call c =>
    have ha : c.args.toList.map e = c.args.toList.map e' := lists c.args fun x hx => he x (by simp [Call.operands, hx])
    cases hc : c.callee with
    | value f => simp only [ha, he f (by simp [Call.operands, hc])]
    | builtin b => simp only [ha]
    | invoke r mm => rfl
  case defer c =>
    have ha : c.args.toList.map e = c.args.toList.map e' := lists c.args fun x hx => he x (by simp [Call.operands, hx])
    cases hc : c.callee with
    | value f => simp only [ha, he f (by simp [Call.operands, hc])]
    | builtin b => rfl
    | invoke r mm => rfl
  case makeMap t r =>
    cases r with
    | none => rfl
    | some y => simp only [Option.map_some, he y (by simp)]
  all_goals (first | rfl | (simp_all; done))

theorem eval_put {A : AAct} {dst : Option Tmp} {v : AV} {h : Heap} {x : Operand} (hx : ∀ d, dst = some d → x ≠ .tmp d) : (A.put dst v h).eval x = A.eval x := by
  cases dst with
  | none => rfl
  | some d =>
    cases x with
    | tmp t =>
      have : t ≠ d := fun e => hx d rfl (e ▸ rfl)
      simp [AAct.put, AAct.eval, upd, this]
    | _ => rfl
theorem aOp_put {mu : Nat → Bool} {A : AAct} {dst : Option Tmp} {v : AV} {h h' : Heap} {o : Oper} (hd : ∀ d, dst = some d → d ∉ o.looksAt ops) :
    aOp P mu o (A.put dst v h').eval h = aOp P mu o A.eval h :=
  aOp_congr o fun x hx => eval_put fun d hdd hxd => hd d hdd (by
    subst hxd
    exact List.mem_append_left _ (List.mem_filterMap.2 ⟨.tmp d, by simpa using hx, rfl⟩))
theorem aWanted_put {A : AAct} {dst : Option Tmp} {v : AV} {h : Heap} {o : Oper} (hd : ∀ d, dst = some d → d ∉ o.looksAt ops) : aWanted ops (A.put dst v h) o = aWanted ops A o := by
  cases dst with
  | none => rfl
  | some d =>
    unfold aWanted
    cases hg : o.guard with
    | none => rfl
    | some gw =>
      obtain ⟨g, want⟩ := gw
      simp only
      unfold guardAt
      cases ht : (ops[g]?).bind (·.dst) with
      | none => rfl
      | some t =>
        have hne : t ≠ d := fun e => hd d rfl (by subst e; simp [Oper.looksAt, hg, ht])
        simp [AAct.put, upd, hne]
theorem put_comm (A : AAct) {x y : Option Tmp} (v u : AV) (h1 h2 h3 : Heap) (h : ∀ d, x = some d → y ≠ some d) : (A.put x v h1).put y u h2 = (A.put y u h3).put x v h2 := by
  cases x with
  | none => cases y <;> rfl
  | some d =>
    cases y with
    | none => rfl
    | some e =>
      have hne : d ≠ e := fun he => h d rfl (he ▸ rfl)
      simp only [AAct.put, AAct.mk.injEq, true_and, and_true]
      funext s
      simp only [upd]
      by_cases h1 : s = d
      · by_cases h2 : s = e
        · exact absurd (h1.symm.trans h2) hne
        · simp [h1, hne]
      · simp [h1]

/-! ### quiet operations, with more memory behind -/
theorem SubH.refl (h : Heap) : SubH h h := fun _ _ e _ => e
theorem SubH.trans {a b c : Heap} (h : SubH a b) (k : SubH b c) : SubH a c := fun id o e hd => k id o (h id o e hd) hd
theorem SubH.app (h u : Heap) : SubH h (h ++ u) := fun id o e _ => by
  rw [List.getElem?_append_left (List.getElem?_eq_some_iff.1 e).1]; exact e
theorem get_pre {h u : Heap} (hs : SubH h u) {id sz : Nat} {xs : List AV} (hl : h[id]? = some (.row sz xs)) : u[id]? = some (.row sz xs) := hs id _ hl rfl
theorem liveRow_pre {h u : Heap} (hs : SubH h u) {id ver sz : Nat} (hl : liveRow h id ver = some sz) : liveRow u id ver = some sz := by
  obtain ⟨xs, h1, h2⟩ := liveRow_some hl
  simp [liveRow, get_pre hs h1, h2]

/-- from a heap on to a longer one -/
def Pre (F : Heap → OR) (h u : Heap) : Prop := (∀ v, F h = .val v h → F u = .val v u) ∧ ∀ f a, F h = .call f a → F u = .call f a

theorem Pre.const {F : Heap → OR} {h u : Heap} (k : (∃ v, ∀ h, F h = .val v h) ∨ (∃ f a, ∀ h, F h = .call f a) ∨ ((∀ v, F h ≠ .val v h) ∧ ∀ f a, F h ≠ .call f a)) : Pre F h u := by
  rcases k with ⟨v, k⟩ | ⟨f, a, k⟩ | ⟨k1, k2⟩
  · refine ⟨fun v' e => ?_, fun f a e => ?_⟩
    · rw [k] at e; cases e; exact k _
    · rw [k] at e; cases e
  · refine ⟨fun v' e => ?_, fun f a e => ?_⟩
    · rw [k] at e; cases e
    · rw [k] at e; cases e; exact k _
  · exact ⟨fun v e => absurd e (k1 v), fun f a e => absurd e (k2 f a)⟩

theorem stuck_pre {h : Heap} {X : AV → Prop} {Y : FuncId → List AV → Prop} : (∀ v, OR.stuck = OR.val v h → X v) ∧ ∀ f a, OR.stuck = OR.call f a → Y f a :=
  ⟨fun _ e => (by cases e), fun _ _ e => (by cases e)⟩
theorem pre_opt (v : Option AV) (h u : Heap) : Pre (fun h => optVal h v) h u := by
  cases v with
  | none => exact .const (.inr (.inr ⟨fun v => by simp [optVal], fun f a => by simp [optVal]⟩))
  | some v => exact .const (.inl ⟨v, fun _ => rfl⟩)
theorem pre_optP (v : Option PV) (h u : Heap) : Pre (fun h => optP h v) h u := by
  cases v with
  | none => exact .const (.inr (.inr ⟨fun v => by simp [optP], fun f a => by simp [optP]⟩))
  | some v => exact .const (.inl ⟨.p v, fun _ => rfl⟩)
theorem pre_stuck (h u : Heap) : Pre (fun _ => .stuck) h u := .const (.inr (.inr ⟨fun v => by simp, fun f a => by simp⟩))
theorem pre_val (v : AV) (h u : Heap) : Pre (fun h => .val v h) h u := .const (.inl ⟨v, fun _ => rfl⟩)

theorem pre_load (T : TypeId) (x : AV) (h u : Heap) (hs : SubH h u) : Pre (aLoad P T x) h u := by
  cases x with
  | p q =>
    cases q with
    | ptr sz xs i o =>
      show Pre (fun h => match xs[i]? with | some v => optVal h (loadT P T (.p v) o) | none => .stuck) h u
      cases xs[i]? with
      | none => exact pre_stuck h u
      | some v => exact pre_opt _ h u
    | _ => exact pre_stuck h u
  | ptr id ver i o =>
    unfold Pre aLoad
    dsimp only
    cases hid : h[id]? with
    | none => exact stuck_pre
    | some ob =>
      cases ob with
      | row sz xs =>
        rw [get_pre hs hid]
        dsimp only
        split
        · cases xs[i]? with
          | none => exact stuck_pre
          | some v => exact pre_opt _ h u
        · exact stuck_pre
      | _ => exact stuck_pre
  | _ => exact pre_stuck h u
theorem pre_live {id ver : Nat} {v : AV} (h u : Heap) (hs : SubH h u) : Pre (fun h => match liveRow h id ver with | some _ => .val v h | none => .stuck) h u := by
  unfold Pre
  dsimp only
  cases hl : liveRow h id ver with
  | none => exact stuck_pre
  | some sz => rw [liveRow_pre hs hl]; exact ⟨fun v e => (by cases e; rfl), fun f a e => (by cases e)⟩
theorem pre_fieldAddr (T : TypeId) (x : AV) (f : Nat) (h u : Heap) (hs : SubH h u) : Pre (aFieldAddr P T x f) h u := by
  unfold aFieldAddr
  cases fieldT P T f with
  | none => exact pre_stuck h u
  | some q =>
    obtain ⟨off, t⟩ := q
    dsimp only
    cases sizeT P t with
    | none => exact pre_stuck h u
    | some n =>
      dsimp only
      by_cases hn : n = 0
      · simp only [hn, if_true]; exact pre_stuck h u
      · simp only [hn, if_false]
        cases x with
        | p q => cases q <;> first | exact pre_val _ h u | exact pre_stuck h u
        | ptr id ver i o => exact pre_live h u hs
        | _ => exact pre_stuck h u
theorem pre_field (T : TypeId) (x : AV) (f : Nat) (h u : Heap) : Pre (aField P T x f) h u := by
  unfold aField
  cases fieldT P T f with
  | none => exact pre_stuck h u
  | some q =>
    obtain ⟨off, t⟩ := q
    cases x with
    | p q => cases q <;> first | exact pre_opt _ h u | exact pre_stuck h u
    | agg cs => exact pre_opt _ h u
    | _ => exact pre_stuck h u

theorem pre_ite {c : Prop} [Decidable c] {F : Heap → OR} {h u : Heap} (k : Pre F h u) : Pre (fun h => if c then F h else .stuck) h u := by
  by_cases hc : c
  · simp only [hc, if_true]; exact k
  · simp only [hc, if_false]; exact pre_stuck h u
theorem pre_ret {v : AV} {h u : Heap} : (∀ v', OR.val v h = .val v' h → OR.val v u = .val v' u) ∧ ∀ f a, OR.val v h = .call f a → OR.val v u = .call f a :=
  ⟨fun v' e => (by cases e; rfl), fun f a e => (by cases e)⟩
theorem pre_indexAddr (T : TypeId) (x ix : AV) (h u : Heap) (hs : SubH h u) : Pre (aIndexAddr P T x ix) h u := by
  cases ix with
  | p qi =>
    cases qi with
    | int k i =>
      cases x with
      | p q =>
        cases q with
        | slice sz xs full =>
          unfold Pre aIndexAddr
          dsimp only
          cases sliceT P T with
          | none => exact stuck_pre
          | some e => exact pre_ite (pre_val _ h u)
        | ptr sz xs j o =>
          unfold Pre aIndexAddr
          dsimp only
          cases arrayT P T with
          | none => exact stuck_pre
          | some q =>
            obtain ⟨n, e⟩ := q
            dsimp only
            cases sizeT P e with
            | none => exact stuck_pre
            | some s => exact pre_ite (pre_val _ h u)
        | _ => exact pre_stuck h u
      | slice id ver off len =>
        unfold Pre aIndexAddr
        dsimp only
        cases sliceT P T with
        | none => exact stuck_pre
        | some e =>
          cases hid : h[id]? with
          | none => exact stuck_pre
          | some ob =>
            cases ob with
            | row sz xs =>
              rw [get_pre hs hid]
              exact pre_ite (pre_val _ h u)
            | _ => exact stuck_pre
      | ptr id ver j o =>
        unfold Pre aIndexAddr
        dsimp only
        cases arrayT P T with
        | none => exact stuck_pre
        | some q =>
          obtain ⟨n, e⟩ := q
          dsimp only
          cases sizeT P e with
          | none => exact stuck_pre
          | some s =>
            cases hl : liveRow h id ver with
            | none => exact stuck_pre
            | some z => rw [liveRow_pre hs hl]; exact pre_ite (pre_val _ h u)
      | _ => exact pre_stuck h u
    | _ => exact pre_stuck h u
  | _ => exact pre_stuck h u
theorem pre_lookup (T : TypeId) (x k : AV) (ok : Bool) (h u : Heap) (hs : SubH h u) : Pre (aLookup P T x k ok) h u := by
  unfold Pre aLookup
  cases mapT P T with
  | none => exact stuck_pre
  | some q =>
    obtain ⟨K, E⟩ := q
    cases x with
    | ref t id =>
      cases t with
      | mp =>
        cases k with
        | p k =>
          dsimp only
          cases hid : h[id]? with
          | none => exact stuck_pre
          | some ob =>
            cases ob with
            | mp es =>
              rw [hs id _ hid rfl]
              cases zeroT P E with
              | none => exact stuck_pre
              | some z =>
                dsimp only
                by_cases hk : keyOk P K k = true
                · simp only [if_pos hk]
                  cases mapGet k es with
                  | none => exact stuck_pre
                  | some r => cases r <;> exact pre_val _ h u
                · simp only [if_neg hk]; exact stuck_pre
            | _ => exact stuck_pre
        | _ => exact stuck_pre
      | _ => exact stuck_pre
    | _ => exact stuck_pre
theorem pre_index (T : TypeId) (x ix : AV) (h u : Heap) : Pre (aIndex P T x ix) h u := by
  have agg : ∀ (x : AV) (i : Int), Pre (fun h => match arrayT P T with
      | some (n, e) => match sizeT P e with | some s => if 0 ≤ i ∧ i < n then optVal h (loadT P e x (i.toNat * s)) else .stuck | none => .stuck
      | none => .stuck) h u := by
    intro x i
    cases arrayT P T with
    | none => exact pre_stuck h u
    | some q =>
      obtain ⟨n, e⟩ := q
      dsimp only
      cases sizeT P e with
      | none => exact pre_stuck h u
      | some s => exact pre_ite (pre_opt _ h u)
  cases ix with
  | p qi =>
    cases qi with
    | int k i =>
      cases x with
      | p q =>
        cases q with
        | str s =>
          refine pre_ite ?_
          cases s[i.toNat]? with
          | none => exact pre_stuck h u
          | some b => exact pre_val _ h u
        | agg cs => exact agg _ i
        | _ => exact pre_stuck h u
      | agg cs => exact agg _ i
      | _ => exact pre_stuck h u
    | _ => exact pre_stuck h u
  | _ => exact pre_stuck h u
theorem pre_slice (T : TypeId) (x : AV) (lo hi mx : Option AV) (h u : Heap) (hs : SubH h u) : Pre (aSlice P T x lo hi mx) h u := by
  unfold Pre aSlice
  cases numOf lo with
  | none => exact stuck_pre
  | some l =>
    cases numOf hi with
    | none => exact stuck_pre
    | some r =>
      cases numOf mx with
      | none => exact stuck_pre
      | some m =>
        cases x with
        | p q =>
          cases q with
          | slice sz xs full =>
            dsimp only
            cases sliceT P T with
            | none => exact stuck_pre
            | some e =>
              cases cutAt l r xs.length with
              | none => exact stuck_pre
              | some ab =>
                cases m with
                | none => exact pre_ite (pre_val _ h u)
                | some m => exact pre_ite (pre_ite (pre_val _ h u))
          | str s =>
            dsimp only
            cases cutAt l r s.size with
            | none => exact stuck_pre
            | some ab =>
              cases m with
              | none => exact pre_ite (pre_val _ h u)
              | some m => exact stuck_pre
          | nilslice =>
            dsimp only
            cases sliceT P T with
            | none => exact stuck_pre
            | some e =>
              cases cutAt l r 0 with
              | none => exact stuck_pre
              | some ab =>
                cases m with
                | none => exact pre_ite (pre_val _ h u)
                | some m => exact stuck_pre
          | _ => exact stuck_pre
        | slice id ver off len =>
          dsimp only
          cases sliceT P T with
          | none => exact stuck_pre
          | some e =>
            cases hid : h[id]? with
            | none => exact stuck_pre
            | some ob =>
              cases ob with
              | row sz xs =>
                rw [get_pre hs hid]
                cases cutAt l r len with
                | none =>
                  cases m with
                  | none => exact pre_ite (pre_val _ h u)
                  | some m => exact pre_ite (pre_val _ h u)
                | some ab =>
                  cases m with
                  | none => exact pre_ite (pre_val _ h u)
                  | some m => exact pre_ite (pre_val _ h u)
              | _ => exact stuck_pre
        | _ => exact stuck_pre
theorem pre_len (T : TypeId) (x : AV) (h u : Heap) (hs : SubH h u) : Pre (aLen P T x) h u := by
  cases x with
  | p q =>
    cases q with
    | str s => exact pre_ite (pre_val _ h u)
    | slice sz xs full => exact pre_ite (pre_val _ h u)
    | nilslice => exact pre_ite (pre_val _ h u)
    | agg cs =>
      unfold Pre aLen
      dsimp only
      cases arrayT P T with
      | none => exact stuck_pre
      | some q => exact pre_val _ h u
    | _ => exact pre_stuck h u
  | slice id ver off len =>
    unfold Pre aLen
    dsimp only
    cases hl : liveRow h id ver with
    | none => simp only [Option.isSome_none, Bool.false_eq_true, and_false, if_false]; exact stuck_pre
    | some z => rw [liveRow_pre hs hl]; exact pre_ite (pre_val _ h u)
  | _ => exact pre_stuck h u
theorem pre_bin (op : BinOp) (T : TypeId) (c : Bool) (x y : AV) (h u : Heap) : Pre (aBin P op T c x y) h u := by
  unfold aBin
  split
  · split
    · exact pre_optP _ h u
    · split
      · exact pre_optP _ h u
      · exact pre_stuck h u
  · exact pre_optP _ h u
  · split
    · exact pre_optP _ h u
    · exact pre_optP _ h u
    · exact pre_stuck h u
theorem pre_un (op : UnOp) (x : AV) (h u : Heap) : Pre (aUn op x) h u := by
  unfold aUn
  split
  · exact pre_val _ h u
  · exact pre_val _ h u
  · exact pre_stuck h u
theorem pre_convert (a b : TypeId) (x : AV) (h u : Heap) : Pre (aConvert P a b x) h u := by
  unfold aConvert
  split
  · split
    · exact pre_val _ h u
    · exact pre_stuck h u
  · exact pre_ite (pre_val _ h u)
  · rename_i y ys full
    cases hn : intsU8 (y :: ys) with
    | some ns => exact pre_ite (pre_val _ h u)
    | none => exact pre_ite (pre_stuck h u)
  · exact pre_stuck h u
theorem pre_extract (x : AV) (i : Nat) (h u : Heap) : Pre (aExtract x i) h u := by
  unfold aExtract
  split
  · split
    · exact pre_val _ h u
    · exact pre_stuck h u
  · split
    · exact pre_val _ h u
    · exact pre_stuck h u
  · exact pre_stuck h u
theorem pre_build (T : TypeId) (ps : List (Nat × AV)) (h u : Heap) : Pre (aBuild P T ps) h u := by
  unfold aBuild
  split
  · split
    · split
      · exact pre_val _ h u
      · exact pre_stuck h u
    · split
      · split
        · split
          · exact pre_val _ h u
          · exact pre_stuck h u
        · exact pre_stuck h u
      · exact pre_stuck h u
  · exact pre_stuck h u
theorem pre_buildSlice (T : TypeId) (mu : Bool) (n : Nat) (ps : List (Nat × AV)) (h u : Heap) : Pre (aBuildSlice P T mu n ps) h u := by
  unfold Pre aBuildSlice
  cases sliceT P T with
  | none => exact stuck_pre
  | some e =>
    dsimp only
    cases sizeT P e with
    | none => exact stuck_pre
    | some sz =>
      dsimp only
      cases aElems 0 sz ps with
      | none => exact stuck_pre
      | some xs =>
        dsimp only
        by_cases hc : xs.length = n ∧ sz ≠ 0 ∧ n * sz ≤ 16777216 ∧ hasZero P e sz = true
        · simp only [hc, and_self, not_false_eq_true, ne_eq, if_true]
          cases mu with
          | false =>
            cases pures xs with
            | some l => exact pre_val _ h u
            | none => exact ⟨fun v e => (by injection e with e1 e2; exact absurd (congrArg List.length e2) (by simp)), fun f a e => (by cases e)⟩
          | true => exact ⟨fun v e => (by injection e with e1 e2; exact absurd (congrArg List.length e2) (by simp)), fun f a e => (by cases e)⟩
        · simp only [hc, if_false]; exact stuck_pre
theorem pre_invoke (f : AV) (args : List AV) (h u : Heap) : Pre (fun _ => aInvoke f args) h u := by
  refine ⟨fun v e => ?_, fun f a e => e⟩
  dsimp only at e
  unfold aInvoke at e
  split at e <;> cases e

theorem pre_typeAssert (A : TypeId) (ok : Bool) (x : AV) (h u : Heap) : Pre (aTypeAssert P A ok x) h u := by
  unfold Pre aTypeAssert
  split
  · split
    · exact ⟨fun v e => (by cases e; rfl), fun f a e => (by cases e)⟩
    · exact stuck_pre
  · exact stuck_pre
/-- a quiet operation, with more memory behind -/
theorem pre_op {mu : Nat → Bool} {o : Oper} (e : Operand → AV) (hq : isQuietOp o.op = true) (h u : Heap) (hs : SubH h u) : Pre (aOp P mu o e) h u := by
  obtain ⟨dst, op, type, pos, after, guard⟩ := o
  cases op <;> first | (simp only [isQuietOp, Bool.false_eq_true] at hq; done) | skip
  case move x => exact pre_val _ h u
  case assign x => exact pre_val _ h u
  case pick c a b =>
    unfold Pre aOp
    dsimp only
    split
    · exact pre_val _ h u
    · exact stuck_pre
  case build t ps => exact pre_build _ _ h u
  case buildSlice t n ps => exact pre_buildSlice _ _ _ _ h u
  case load t a => exact pre_load _ _ h u hs
  case nilCheck x =>
    unfold Pre aOp
    dsimp only
    split
    · exact pre_val _ h u
    · exact pre_live h u hs
    · exact stuck_pre
  case binOp op t x y ty => exact pre_bin _ _ _ _ _ h u
  case unOp op t x => exact pre_un _ _ h u
  case convert a b x => exact pre_convert _ _ _ h u
  case makeInterface t x =>
    unfold Pre aOp
    dsimp only
    split
    · split
      · exact pre_val _ h u
      · exact stuck_pre
    · exact stuck_pre
  case makeFunc f a c => exact pre_ite (pre_val _ h u)
  case slice t x lo hi mx => exact pre_slice _ _ _ _ _ h u hs
  case fieldAddr t x f => exact pre_fieldAddr _ _ _ h u hs
  case field t x f => exact pre_field _ _ _ h u
  case indexAddr t x i => exact pre_indexAddr _ _ _ h u hs
  case index t x i => exact pre_index _ _ _ h u
  case extract x i => exact pre_extract _ _ h u
  case lookup t x k ok => exact pre_lookup _ _ _ _ h u hs
  case typeAssert x t a ok => exact pre_typeAssert _ _ _ h u
  case call c =>
    unfold Pre aOp
    dsimp only
    cases hc : c.callee with
    | value f => exact pre_invoke _ _ h u
    | invoke r mm => simp [isQuietOp, hc] at hq
    | builtin b =>
      dsimp only
      cases b <;> first | (simp [isQuietOp, hc] at hq; done) | skip
      all_goals
        unfold aBuiltin
        split
        · exact pre_ite (pre_len _ _ h u hs)
        · simp_all
        · exact pre_val _ h u
        · exact pre_val _ h u
        · simp_all
        · simp_all
        · exact stuck_pre

end Abs
end Go.Proofs.YtdellinghbppgaaGreatDoor

namespace Go.Proofs.YtdellinghbppgaaGreatDoor
namespace Abs
variable {P : Program} {H : Hints} {ops : Array Oper} {Q : Ex → AAct → Prop}

/-! ### one operation -/
def stepD (P : Program) (H : Hints) (ops : Array Oper) (Q : Ex → AAct → Prop) (o : Oper) (K : Heap → AAct → Prop) (hs : Heap) (A : AAct) : Prop :=
  wantK (fun _ => dcK
      (fun _ => orK P A o.dst (fun B => K B.h B) Q (aOp P (mutOf H) o A.eval A.h))
      (fun _ => allK A.h (fun v h => K hs (A.put o.dst v h)) (aOp P (mutOf H) o A.eval A.h))
      (fun _ => quK P A.h (fun v => K hs (A.put o.dst v A.h)) (aOp P (mutOf H) o A.eval A.h))
      (fun _ => quK P hs (fun v => K hs (A.put o.dst v A.h)) (aOp P (mutOf H) o A.eval hs))
      (fun j sz => slotK hs A.h j sz (fun v h => K hs (A.put o.dst v h)) (slotVal P A.eval o.op))
      (fun _ => stoK P hs A.h A.eval (fun h => K hs (A.put o.dst (.p (.tuple [])) h)) o.op)
      (fun _ => nopK P A.h A.eval (K hs (A.put o.dst (.p (.tuple [])) A.h)) o.op)
      (fun _ => appK hs A.h (fun v h => K hs (A.put o.dst v h)) (aOp P (mutOf H) o A.eval A.h))
      (fun _ => thrK P Q A (fun v => K hs (A.put o.dst v A.h)) (aOp P (mutOf H) o A.eval A.h))
      (dcls H o))
    (fun _ => K hs (A.put o.dst (.p (.tuple [])) A.h)) (aWanted ops A o)
theorem wpDraw_cons (o : Oper) (rest : List Oper) (hs : Heap) (A : AAct) : wpDraw P H ops Q (o :: rest) hs A = stepD P H ops Q o (wpDraw P H ops Q rest) hs A := by
  rw [wpDraw]; rfl

/-- what an operation does to the heap -/
inductive HE where
  | app (t : Heap)
  | set (id : Nat) (o : AObj)
def HE.ap : HE → Heap → Heap
  | .app t, h => h ++ t
  | .set id o, h => h.set id o

def Qv (P : Program) (h : Heap) (r : OR) (v : AV) : Prop :=
  r = .val v h ∨ ∃ f args, r = .call f args ∧ ∀ h', SubH h h' → HCall P f args h' (fun r h'' => r = .ret v ∧ h'' = h')
def SlotAt (P : Program) (H : Hints) (o : Oper) (hs : Heap) (v : AV) (E : HE) (A : AAct) : Prop :=
  ∃ j sz z, dcls H o = .slot j sz ∧ slotVal P A.eval o.op = some z ∧ z.cells.map (·.length) = some sz ∧ deadAt hs (hs.length - 1 - j) = true ∧ A.h[hs.length - 1 - j]? = some (.row sz []) ∧
    v = .ptr (hs.length - 1 - j) 1 0 0 ∧ E = .set (hs.length - 1 - j) (.row sz [z])
def StoAt (P : Program) (H : Hints) (o : Oper) (hs : Heap) (v : AV) (E : HE) (A : AAct) : Prop :=
  dcls H o = .sto ∧ ∃ T a x id ver i k ob, o.op = .store T a x ∧ A.eval a = .ptr id ver i k ∧ deadAt hs id = true ∧ aStore P T (.ptr id ver i k) (A.eval x) A.h = .skip (A.h.set id ob) ∧ v = .p (.tuple []) ∧ E = .set id ob
def NopAt (P : Program) (H : Hints) (o : Oper) (v : AV) (E : HE) (A : AAct) : Prop :=
  dcls H o = .nop ∧ v = .p (.tuple []) ∧ E = .app [] ∧ ∃ T a x, o.op = .store T a x ∧ aStore P T (A.eval a) (A.eval x) A.h = .skip A.h
def AppAt (P : Program) (H : Hints) (o : Oper) (hs : Heap) (v : AV) (E : HE) (A : AAct) : Prop :=
  ∃ t, dcls H o = .app t ∧ ((∃ l, E = .app l) ∨ ∃ id ob, E = .set id ob ∧ deadAt hs id = true) ∧ aOp P (mutOf H) o A.eval A.h = .val v (E.ap A.h)
/-- a call that comes back -/
def RetAt (P : Program) (H : Hints) (o : Oper) (v : AV) (E : HE) (A : AAct) : Prop :=
  dcls H o = .thr ∧ E = .app [] ∧ ∃ f args, aOp P (mutOf H) o A.eval A.h = .call f args ∧ ∀ h', SubH A.h h' → HCall P f args h' (fun r h'' => r = .ret v ∧ h'' = h')
/-- a call that ends in a panic -/
def TS (P : Program) (H : Hints) (ops : Array Oper) (Q : Ex → AAct → Prop) (o : Oper) (A : AAct) : Prop :=
  aWanted ops A o = some true ∧ dcls H o = .thr ∧ ∃ f args v, aOp P (mutOf H) o A.eval A.h = .call f args ∧ HCall P f args A.h (fun r h'' => r = .panic v ∧ h'' = A.h) ∧ ∀ T, Q (.panic v) { A with tmps := T }
/-- a step with one outcome -/
def QS (P : Program) (H : Hints) (ops : Array Oper) (o : Oper) (hs : Heap) (v : AV) (E : HE) (A : AAct) : Prop :=
  (aWanted ops A o = some false ∧ v = .p (.tuple []) ∧ E = .app []) ∨
  (aWanted ops A o = some true ∧
    ((dcls H o = .quiet ∧ E = .app [] ∧ Qv P A.h (aOp P (mutOf H) o A.eval A.h) v) ∨
     (dcls H o = .low ∧ E = .app [] ∧ Qv P hs (aOp P (mutOf H) o A.eval hs) v) ∨
     (dcls H o = .alloc ∧ ∃ t, E = .app t ∧ aOp P (mutOf H) o A.eval A.h = .val v (A.h ++ t)) ∨
     SlotAt P H o hs v E A ∨ StoAt P H o hs v E A ∨ NopAt P H o v E A ∨ AppAt P H o hs v E A ∨ RetAt P H o v E A))

theorem aStore_set {T : TypeId} {id ver i k : Nat} {y : AV} {h h' : Heap} (e : aStore P T (.ptr id ver i k) y h = .skip h') : ∃ ob, h' = h.set id ob := by
  unfold aStore at e
  split at e
  · rename_i n hx _
    split at e
    · split at e
      · split at e
        · split at e
          · cases hx; cases e; exact ⟨_, rfl⟩
          · cases e
        · cases e
      · cases e
    · cases e
  · cases e

theorem quK_iff {h : Heap} {K : AV → Prop} {r : OR} : quK P h K r ↔ ∃ v, Qv P h r v ∧ K v := by
  constructor
  · intro k
    cases r <;> first | exact k.elim | skip
    case val v h' => obtain ⟨rfl, k⟩ := k; exact ⟨v, .inl rfl, k⟩
    case call f args => obtain ⟨v, k1, k2⟩ := k; exact ⟨v, .inr ⟨f, args, rfl, k1⟩, k2⟩
  · rintro ⟨v, rfl | ⟨f, args, rfl, k1⟩, k2⟩
    · exact ⟨rfl, k2⟩
    · exact ⟨v, k1, k2⟩

theorem stepD_of_qs {o : Oper} {K : Heap → AAct → Prop} {hs : Heap} {A : AAct} {v : AV} {E : HE} (q : QS P H ops o hs v E A) (k : K hs (A.put o.dst v (E.ap A.h))) : stepD P H ops Q o K hs A := by
  unfold stepD
  rcases q with ⟨hw, rfl, rfl⟩ | ⟨hw, q⟩
  · rw [hw]
    refine ⟨fun h => (by cases h), fun _ => ?_⟩
    simpa [HE.ap] using k
  · rw [hw]
    refine ⟨fun _ => ?_, fun h => (by cases h)⟩
    rcases q with ⟨hc, rfl, q⟩ | ⟨hc, rfl, q⟩ | ⟨hc, t, rfl, q⟩ | ⟨j, sz, z, hc, h1, h2, h3, h4, rfl, rfl⟩ | ⟨hc, T, a, x, id, ver, i, kk, ob, h1, h2, h3, h4, rfl, rfl⟩ | ⟨hc, rfl, rfl, T, a, x, h1, h2⟩ | ⟨t, hc, hE, hq⟩ | ⟨hc, rfl, f, args, h1, h2⟩
    · rw [hc]; exact quK_iff.2 ⟨v, q, by simpa [HE.ap] using k⟩
    · rw [hc]; exact quK_iff.2 ⟨v, q, by simpa [HE.ap] using k⟩
    · rw [hc, q]; exact ⟨⟨t, rfl⟩, k⟩
    · rw [hc]
      refine (show slotK hs A.h j sz (fun v h => K hs (A.put o.dst v h)) (slotVal P A.eval o.op) from ?_)
      rw [h1]
      exact ⟨h2, h3, h4, k⟩
    · rw [hc]
      refine (show stoK P hs A.h A.eval (fun h => K hs (A.put o.dst (.p (.tuple [])) h)) o.op from ?_)
      rw [h1]
      show (match A.eval a with | .ptr id ver i o => deadAt hs id = true ∧ skipK _ (aStore P T (.ptr id ver i o) (A.eval x) A.h) | _ => False)
      rw [h2]
      refine ⟨h3, ?_⟩
      rw [h4]
      exact k
    · rw [hc]
      refine (show nopK P A.h A.eval (K hs (A.put o.dst (.p (.tuple [])) A.h)) o.op from ?_)
      rw [h1]
      exact ⟨h2, by simpa [HE.ap] using k⟩
    · rw [hc, hq]
      refine ⟨?_, k⟩
      rcases hE with ⟨l, rfl⟩ | ⟨id, ob, rfl, hd⟩
      · exact .inl ⟨l, rfl⟩
      · exact .inr ⟨id, ob, rfl, hd⟩
    · rw [hc, h1]
      exact .inl ⟨v, h2, by simpa [HE.ap] using k⟩
theorem stepD_of_ts {o : Oper} {K : Heap → AAct → Prop} {hs : Heap} {A : AAct} (q : TS P H ops Q o A) : stepD P H ops Q o K hs A := by
  obtain ⟨hw, hc, f, args, v, h1, h2, h3⟩ := q
  unfold stepD
  rw [hw]
  refine ⟨fun _ => ?_, fun h => (by cases h)⟩
  rw [hc, h1]
  exact .inr ⟨v, h2, h3⟩
theorem thr_of_stepD {o : Oper} {K : Heap → AAct → Prop} {hs : Heap} {A : AAct} (hc : dcls H o = .thr) (k : stepD P H ops Q o K hs A) :
    (∃ v E, QS P H ops o hs v E A ∧ K hs (A.put o.dst v (E.ap A.h))) ∨ TS P H ops Q o A := by
  unfold stepD at k
  cases hw : aWanted ops A o with
  | none => rw [hw] at k; exact k.elim
  | some b =>
    rw [hw] at k
    cases b with
    | false => exact .inl ⟨_, .app [], .inl ⟨hw, rfl, rfl⟩, by simpa [HE.ap] using k.2 rfl⟩
    | true =>
      have k1 := k.1 rfl
      rw [hc] at k1
      have k2 : thrK P Q A (fun v => K hs (A.put o.dst v A.h)) (aOp P (mutOf H) o A.eval A.h) := k1
      cases hr : aOp P (mutOf H) o A.eval A.h <;> rw [hr] at k2 <;> first | exact k2.elim | skip
      rename_i f args
      rcases k2 with ⟨v, h1, h2⟩ | ⟨v, h1, h2⟩
      · exact .inl ⟨v, .app [], .inr ⟨hw, .inr (.inr (.inr (.inr (.inr (.inr (.inr ⟨hc, rfl, f, args, hr, h1⟩))))))⟩, by simpa [HE.ap] using h2⟩
      · exact .inr ⟨hw, hc, f, args, v, hr, h1, h2⟩
theorem qs_of_stepD {o : Oper} {K : Heap → AAct → Prop} {hs : Heap} {A : AAct} (hb : (dcls H o ≠ .bar ∧ dcls H o ≠ .thr) ∨ aWanted ops A o = some false) (k : stepD P H ops Q o K hs A) :
    ∃ v E, QS P H ops o hs v E A ∧ K hs (A.put o.dst v (E.ap A.h)) := by
  unfold stepD at k
  cases hw : aWanted ops A o with
  | none => rw [hw] at k; exact k.elim
  | some b =>
    rw [hw] at k
    cases b with
    | false => exact ⟨_, .app [], .inl ⟨hw, rfl, rfl⟩, by simpa [HE.ap] using k.2 rfl⟩
    | true =>
      have k1 := k.1 rfl
      cases hc : dcls H o with
      | bar =>
        rcases hb with hb | hb
        · exact absurd hc hb.1
        · rw [hw] at hb; cases hb
      | thr =>
        rcases hb with hb | hb
        · exact absurd hc hb.2
        · rw [hw] at hb; cases hb
      | alloc =>
        rw [hc] at k1
        cases hr : aOp P (mutOf H) o A.eval A.h <;> rw [hr] at k1 <;> first | exact k1.elim | skip
        rename_i v h'
        obtain ⟨⟨t, rfl⟩, k2⟩ := k1
        exact ⟨v, .app t, .inr ⟨hw, .inr (.inr (.inl ⟨hc, t, rfl, hr⟩))⟩, k2⟩
      | quiet =>
        rw [hc] at k1
        obtain ⟨v, q, k2⟩ := quK_iff.1 k1
        exact ⟨v, .app [], .inr ⟨hw, .inl ⟨hc, rfl, q⟩⟩, by simpa [HE.ap] using k2⟩
      | low =>
        rw [hc] at k1
        obtain ⟨v, q, k2⟩ := quK_iff.1 k1
        exact ⟨v, .app [], .inr ⟨hw, .inr (.inl ⟨hc, rfl, q⟩)⟩, by simpa [HE.ap] using k2⟩
      | slot j sz =>
        rw [hc] at k1
        have k2 : slotK hs A.h j sz (fun v h => K hs (A.put o.dst v h)) (slotVal P A.eval o.op) := k1
        cases hz : slotVal P A.eval o.op with
        | none => rw [hz] at k2; exact k2.elim
        | some z =>
          rw [hz] at k2
          obtain ⟨h1, h2, h3, k3⟩ := k2
          exact ⟨_, .set _ _, .inr ⟨hw, .inr (.inr (.inr (.inl ⟨j, sz, z, hc, hz, h1, h2, h3, rfl, rfl⟩)))⟩, k3⟩
      | sto =>
        rw [hc] at k1
        have k2 : stoK P hs A.h A.eval (fun h => K hs (A.put o.dst (.p (.tuple [])) h)) o.op := k1
        unfold stoK at k2
        split at k2
        · rename_i T a x hop
          split at k2
          · rename_i id ver i kk ha
            obtain ⟨h1, k3⟩ := k2
            unfold skipK at k3
            split at k3
            · rename_i h' hst
              obtain ⟨ob, rfl⟩ := aStore_set hst
              exact ⟨_, .set id ob, .inr ⟨hw, .inr (.inr (.inr (.inr (.inl ⟨hc, T, a, x, id, ver, i, kk, ob, hop, ha, h1, hst, rfl, rfl⟩))))⟩, k3⟩
            · exact k3.elim
          · exact k2.elim
        · exact k2.elim
      | nop =>
        rw [hc] at k1
        have k2 : nopK P A.h A.eval (K hs (A.put o.dst (.p (.tuple [])) A.h)) o.op := k1
        unfold nopK at k2
        split at k2
        · rename_i T a x hop
          exact ⟨_, .app [], .inr ⟨hw, .inr (.inr (.inr (.inr (.inr (.inl ⟨hc, rfl, rfl, T, a, x, hop, k2.1⟩)))))⟩, by simpa [HE.ap] using k2.2⟩
        · exact k2.elim
      | app t =>
        rw [hc] at k1
        have k2 : appK hs A.h (fun v h => K hs (A.put o.dst v h)) (aOp P (mutOf H) o A.eval A.h) := k1
        cases hr : aOp P (mutOf H) o A.eval A.h <;> rw [hr] at k2 <;> first | exact k2.elim | skip
        rename_i v h'
        obtain ⟨⟨l, rfl⟩ | ⟨id, ob, rfl, hd⟩, k3⟩ := k2
        · exact ⟨v, .app l, .inr ⟨hw, .inr (.inr (.inr (.inr (.inr (.inr (.inl ⟨t, hc, .inl ⟨l, rfl⟩, hr⟩))))))⟩, k3⟩
        · exact ⟨v, .set id ob, .inr ⟨hw, .inr (.inr (.inr (.inr (.inr (.inr (.inl ⟨t, hc, .inr ⟨id, ob, rfl, hd⟩, hr⟩))))))⟩, k3⟩
theorem orK_mono {A : AAct} {dst : Option Tmp} {K K' : AAct → Prop} {r : OR} (h : ∀ B, K B → K' B) (k : orK P A dst K Q r) : orK P A dst K' Q r := by
  cases r with
  | val v h' => exact h _ k
  | skip h' => exact h _ k
  | call f args =>
    intro M0 m w cargs hS ha
    obtain ⟨h1, h2⟩ := k M0 m w cargs hS ha
    refine ⟨h1, h2.mono fun _ _ hb => ?_⟩
    obtain ⟨r, h', m', hR, rest⟩ := hb
    exact ⟨r, h', m', by cases r <;> first | exact h _ hR | exact hR, rest⟩
  | yld l args =>
    refine ⟨k.1, fun M0 m w cargs bl hS ha hbl => ?_⟩
    obtain ⟨f, tmps, as, bd, h1, h2⟩ := k.2 M0 m w cargs bl hS ha hbl
    refine ⟨f, tmps, as, bd, h1, fun c cs => ?_⟩
    obtain ⟨e, w', ⟨r, h', m', hR, rest⟩, hs⟩ := h2 c cs
    exact ⟨e, w', ⟨r, h', m', by cases r <;> first | exact h _ hR | exact hR, rest⟩, hs⟩
  | dfr d =>
    simp only [orK] at k ⊢
    have gen : ∀ {X Y : Prop} {c : Rc}, (X → Y) → dfrK X c → dfrK Y c := fun hx hc => by
      rename_i c
      cases c <;> first | exact False.elim hc | exact hx hc
    exact gen (h _) k
  | recover =>
    simp only [orK] at k ⊢
    have gen : ∀ {X Y : AAct → PV → Prop} {c : Rc}, (∀ B v, X B v → Y B v) → recK A X c → recK A Y c := fun hx hc => by
      rename_i c
      cases c <;> first | exact False.elim hc | exact hx _ _ hc
    exact gen (fun _ _ => h _) k
  | panic v => exact k
  | stuck => exact k
theorem stepD_mono {o : Oper} {K K' : Heap → AAct → Prop} {hs : Heap} {A : AAct} (h : ∀ hs A, K hs A → K' hs A) (k : stepD P H ops Q o K hs A) : stepD P H ops Q o K' hs A := by
  by_cases ht : dcls H o = .thr
  · rcases thr_of_stepD ht k with ⟨v, E, q, k1⟩ | q
    · exact stepD_of_qs q (h _ _ k1)
    · exact stepD_of_ts q
  by_cases hb : dcls H o ≠ .bar ∨ aWanted ops A o = some false
  · obtain ⟨v, E, q, k1⟩ := qs_of_stepD (hb.imp (fun h => ⟨h, ht⟩) id) k
    exact stepD_of_qs q (h _ _ k1)
  · have hb1 : dcls H o = .bar := Classical.byContradiction fun hn => hb (.inl hn)
    unfold stepD at k ⊢
    cases hw : aWanted ops A o with
    | none => rw [hw] at k; exact k.elim
    | some b =>
      rw [hw, hb1] at k
      rw [hb1]
      cases b with
      | false => exact absurd (.inr hw) hb
      | true =>
        have k1 : orK P A o.dst (fun B => K B.h B) Q (aOp P (mutOf H) o A.eval A.h) := k.1 rfl
        exact ⟨fun _ => orK_mono (K' := fun B => K' B.h B) (fun B => h B.h B) k1, fun h => (by cases h)⟩

theorem dcls_quiet {o : Oper} (h : dcls H o = .quiet) : isQuietOp o.op = true := by
  unfold dcls at h
  split at h
  · unfold stoDC at h
    split at h
    · split at h <;> cases h
    · cases h
  · split at h
    · split at h
      · cases h
      · split at h
        · assumption
        · cases h
    · cases h
    · split at h <;> cases h
    · split at h <;> cases h
    · split at h <;> cases h
    · split at h <;> cases h
    · cases h
theorem dcls_low {o : Oper} (h : dcls H o = .low) : isQuietOp o.op = true := by
  unfold dcls at h
  split at h
  · unfold stoDC at h
    split at h
    · split at h <;> cases h
    · cases h
  · split at h
    · split at h
      · cases h
      · split at h <;> cases h
    · cases h
    · split at h
      · assumption
      · cases h
    · split at h <;> cases h
    · split at h <;> cases h
    · split at h <;> cases h
    · cases h
theorem dcls_slot {o : Oper} {j sz : Nat} (h : dcls H o = .slot j sz) : isSlotOp o.op = true := by
  unfold dcls at h
  split at h
  · unfold stoDC at h
    split at h
    · split at h <;> cases h
    · cases h
  · split at h
    · split at h
      · cases h
      · split at h <;> cases h
    · cases h
    · split at h <;> cases h
    · split at h
      · assumption
      · cases h
    · split at h <;> cases h
    · split at h <;> cases h
    · cases h

theorem operands_slot {e e' : Operand → AV} {o : Oper} (he : ∀ x ∈ o.op.operands, e x = e' x) : slotVal P e o.op = slotVal P e' o.op := by
  unfold slotVal
  split
  · rfl
  · rename_i T x hop
    rw [he x (by rw [hop]; simp [Op.operands])]
  · rfl
theorem eval_looks {A : AAct} {dst : Option Tmp} {v : AV} {h : Heap} {o : Oper} (hd : ∀ d, dst = some d → d ∉ o.looksAt ops) : ∀ x ∈ o.op.operands, (A.put dst v h).eval x = A.eval x := by
  intro x hx
  refine eval_put fun d hd' hxd => hd d hd' ?_
  subst hxd
  exact List.mem_append_left _ (List.mem_filterMap.2 ⟨.tmp d, by simpa using hx, rfl⟩)

/-- the same outcome in a state that looks the same to the operation -/
theorem QS.same {o : Oper} {hs : Heap} {v : AV} {E : HE} {A B : AAct} (q : QS P H ops o hs v E A) (hw : aWanted ops B o = aWanted ops A o) (he : ∀ x ∈ o.op.operands, B.eval x = A.eval x) (hh : B.h = A.h) : QS P H ops o hs v E B := by
  have hop : ∀ h, aOp P (mutOf H) o B.eval h = aOp P (mutOf H) o A.eval h := fun h => aOp_congr o he
  unfold QS SlotAt StoAt NopAt AppAt RetAt at *
  rw [hw, hh, operands_slot he]
  simp only [hop]
  rcases q with q | ⟨q1, q | q | q | q | ⟨hc, T, a, x, id, ver, i, kk, ob, h1, h2, h3, h4, h5⟩ | ⟨hc, h1, h2, T, a, x, h3, h4⟩ | q⟩
  · exact .inl q
  · exact .inr ⟨q1, .inl q⟩
  · exact .inr ⟨q1, .inr (.inl q)⟩
  · exact .inr ⟨q1, .inr (.inr (.inl q))⟩
  · exact .inr ⟨q1, .inr (.inr (.inr (.inl q)))⟩
  · refine .inr ⟨q1, .inr (.inr (.inr (.inr (.inl ⟨hc, T, a, x, id, ver, i, kk, ob, h1, ?_, h3, ?_, h5⟩))))⟩
    · rw [he a (by rw [h1]; simp [Op.operands])]; exact h2
    · rw [he x (by rw [h1]; simp [Op.operands])]; exact h4
  · refine .inr ⟨q1, .inr (.inr (.inr (.inr (.inr (.inl ⟨hc, h1, h2, T, a, x, h3, ?_⟩)))))⟩
    rw [he a (by rw [h3]; simp [Op.operands]), he x (by rw [h3]; simp [Op.operands])]; exact h4
  · exact .inr ⟨q1, .inr (.inr (.inr (.inr (.inr (.inr q)))))⟩

/-- two operations in the other order -/
theorem commute {o o' : Oper} {hs : Heap} {v : AV} {E : HE} {A : AAct} {K : Heap → AAct → Prop} (hp : pairOk H ops o o' = true) (q : QS P H ops o hs v E A)
    (k : stepD P H ops Q o' K hs (A.put o.dst v (E.ap A.h))) : stepD P H ops Q o' (fun hs' A' => hs' = hs ∧ QS P H ops o hs v E A' ∧ K hs (A'.put o.dst v (E.ap A'.h))) hs A := by
  unfold pairOk at hp
  simp only [Bool.and_eq_true] at hp
  obtain ⟨hall, hap⟩ := hp
  obtain ⟨a1, a2, a3⟩ := Oper.apart_spec hap
  have hb2 : dcls H o' ≠ .bar := by
    intro hb
    have hall' : ∀ c, pairDC c .bar = false := by intro c; cases c <;> rfl
    rw [hb, hall'] at hall
    simp [isQui] at hall
  have hcase : (∃ v' E', QS P H ops o' hs v' E' (A.put o.dst v (E.ap A.h)) ∧ K hs ((A.put o.dst v (E.ap A.h)).put o'.dst v' (E'.ap (A.put o.dst v (E.ap A.h)).h))) ∨ (TS P H ops Q o' (A.put o.dst v (E.ap A.h)) ∧ E = .app []) := by
    by_cases ht : dcls H o' = .thr
    · rcases thr_of_stepD ht k with h | h
      · exact .inl h
      · refine .inr ⟨h, ?_⟩
        rw [ht] at hall
        rcases q with ⟨_, _, h⟩ | ⟨_, ⟨_, h, _⟩ | ⟨_, h, _⟩ | ⟨hc', _⟩ | ⟨_, _, _, hc', _⟩ | ⟨hc', _⟩ | ⟨hc', _⟩ | ⟨_, hc', _⟩ | ⟨hc', _⟩⟩
        · exact h
        · exact h
        · exact h
        all_goals (rw [hc'] at hall; simp [pairDC, isThr, isQui] at hall)
    · exact .inl (qs_of_stepD (.inl ⟨hb2, ht⟩) k)
  rcases hcase with ⟨v', E', q', k'⟩ | ⟨⟨tw, tc, f, args, u, t1, t2, t3⟩, rfl⟩
  rotate_left
  · refine stepD_of_ts ⟨(aWanted_put a1).symm.trans tw, tc, f, args, u, ?_, ?_, fun T => ?_⟩
    · rw [← t1, put_h]
      simp only [HE.ap, List.append_nil]
      exact (aOp_congr o' (eval_looks a1)).symm
    · rw [put_h] at t2
      simpa [HE.ap] using t2
    · have := t3 T
      have e : ({ A.put o.dst v (HE.ap (.app []) A.h) with tmps := T } : AAct) = { A with tmps := T } := by
        cases o.dst <;> simp [AAct.put, HE.ap]
      rw [e] at this
      exact this
  have hput : (A.put o.dst v (E.ap A.h)).h = E.ap A.h := put_h _ _ _ _
  have hput' : (A.put o'.dst v' (E'.ap A.h)).h = E'.ap A.h := put_h _ _ _ _
  have ee : ∀ x ∈ o'.op.operands, (A.put o.dst v (E.ap A.h)).eval x = A.eval x := eval_looks a1
  have ew : aWanted ops (A.put o.dst v (E.ap A.h)) o' = aWanted ops A o' := aWanted_put a1
  have ee' : ∀ x ∈ o.op.operands, (A.put o'.dst v' (E'.ap A.h)).eval x = A.eval x := eval_looks a3
  have ew' : aWanted ops (A.put o'.dst v' (E'.ap A.h)) o = aWanted ops A o := aWanted_put a3
  have hop : ∀ h, aOp P (mutOf H) o' (A.put o.dst v (E.ap A.h)).eval h = aOp P (mutOf H) o' A.eval h := fun h => aOp_congr o' ee
  have hop' : ∀ h, aOp P (mutOf H) o (A.put o'.dst v' (E'.ap A.h)).eval h = aOp P (mutOf H) o A.eval h := fun h => aOp_congr o ee'
  -- what is to be shown
  have fin : QS P H ops o' hs v' E' A → QS P H ops o hs v E (A.put o'.dst v' (E'.ap A.h)) → E.ap (E'.ap A.h) = E'.ap (E.ap A.h) →
      stepD P H ops Q o' (fun hs' A' => hs' = hs ∧ QS P H ops o hs v E A' ∧ K hs (A'.put o.dst v (E.ap A'.h))) hs A := by
    intro qA qB hEE
    refine stepD_of_qs qA ⟨rfl, qB, ?_⟩
    rw [hput']
    rw [hput] at k'
    have : (A.put o'.dst v' (E'.ap A.h)).put o.dst v (E.ap (E'.ap A.h)) = (A.put o.dst v (E.ap A.h)).put o'.dst v' (E'.ap (E.ap A.h)) := by
      rw [hEE]
      exact (put_comm A v v' _ _ _ a2).symm
    rw [this]
    exact k'
  -- the operation of the text leaves the heap as it is
  have still : E = .app [] → QS P H ops o' hs v' E' A := fun hE => by
    refine q'.same ew.symm (fun x hx => (ee x hx).symm) ?_
    rw [hput, hE]; simp [HE.ap]
  -- the other one does
  have still' : E' = .app [] → QS P H ops o hs v E (A.put o'.dst v' (E'.ap A.h)) := fun hE => by
    refine q.same ew' ee' ?_
    rw [hput', hE]; simp [HE.ap]
  have lowA : (aWanted ops A o' = some false ∧ v' = .p (.tuple []) ∧ E' = .app []) ∨ (aWanted ops A o' = some true ∧ dcls H o' = .low ∧ E' = .app [] ∧ Qv P hs (aOp P (mutOf H) o' A.eval hs) v') →
      stepD P H ops Q o' (fun hs' A' => hs' = hs ∧ QS P H ops o hs v E A' ∧ K hs (A'.put o.dst v (E.ap A'.h))) hs A := by
    rintro (⟨hw, hv, hE⟩ | ⟨hw, hc, hE, hq⟩)
    · exact fin (.inl ⟨hw, hv, hE⟩) (still' hE) (by rw [hE]; simp [HE.ap])
    · exact fin (.inr ⟨hw, .inr (.inl ⟨hc, hE, hq⟩)⟩) (still' hE) (by rw [hE]; simp [HE.ap])
  have q0 := q'
  unfold QS at q'
  rw [ew] at q'
  simp only [hop] at q'
  have q1 := q
  rcases q with ⟨hw, rfl, rfl⟩ | ⟨hw, ⟨hc, rfl, hq⟩ | ⟨hc, rfl, hq⟩ | ⟨hc, t, rfl, hq⟩ | hsl | hst | hnp | hap' | hret⟩
  · exact fin (still rfl) (.inl ⟨ew'.trans hw, rfl, rfl⟩) (by simp [HE.ap])
  · have happ : ∃ t', E' = .app t' := by
      rcases q' with ⟨_, _, h⟩ | ⟨_, ⟨_, h, _⟩ | ⟨_, h, _⟩ | ⟨_, t', h, _⟩ | ⟨_, _, _, hc', _⟩ | ⟨hc', _⟩ | ⟨_, _, h, _⟩ | ⟨_, hc', _⟩ | ⟨hc', hE', _⟩⟩
      · exact ⟨_, h⟩
      · exact ⟨_, h⟩
      · exact ⟨_, h⟩
      · exact ⟨t', h⟩
      · rw [hc, hc'] at hall; cases hall
      · rw [hc, hc'] at hall; cases hall
      · exact ⟨_, h⟩
      · rw [hc, hc'] at hall; cases hall
      · exact ⟨_, hE'⟩
    obtain ⟨t', rfl⟩ := happ
    refine fin (still rfl) (.inr ⟨ew'.trans hw, .inl ⟨hc, rfl, ?_⟩⟩) (by simp [HE.ap])
    rw [hput', hop']
    have hpre := pre_op (P := P) (mu := mutOf H) (o := o) A.eval (dcls_quiet hc) A.h (A.h ++ t') (SubH.app _ _)
    rcases hq with hq | ⟨f, args, hq, hcall⟩
    · exact .inl (hpre.1 _ hq)
    · exact .inr ⟨f, args, hpre.2 _ _ hq, fun h' hs' => hcall h' ((SubH.app _ _).trans hs')⟩
  · exact fin (still rfl) (.inr ⟨ew'.trans hw, .inr (.inl ⟨hc, rfl, by rw [hop']; exact hq⟩)⟩) (by simp [HE.ap])
  · rcases q' with h | ⟨hw', ⟨hc', _⟩ | h | ⟨hc', _⟩ | ⟨_, _, _, hc', _⟩ | ⟨hc', _⟩ | ⟨hc', _⟩ | ⟨_, hc', _⟩ | ⟨hc', hE', _⟩⟩
    · exact lowA (.inl h)
    · rw [hc, hc'] at hall; cases hall
    · exact lowA (.inr ⟨hw', h⟩)
    · rw [hc, hc'] at hall; cases hall
    · rw [hc, hc'] at hall; cases hall
    · rw [hc, hc'] at hall; cases hall
    · rw [hc, hc'] at hall; cases hall
    · rw [hc, hc'] at hall; cases hall
    · rw [hc, hc'] at hall; cases hall
  · obtain ⟨j, sz, z, hc, h1, h2, h3, h4, rfl, rfl⟩ := hsl
    rcases q' with h | ⟨hw', ⟨hc', _⟩ | h | ⟨hc', _⟩ | ⟨j', sz', z', hc', g1, g2, g3, g4, rfl, rfl⟩ | ⟨hc', _⟩ | ⟨hc', _⟩ | ⟨_, hc', _⟩ | ⟨hc', hE', _⟩⟩
    · exact lowA (.inl h)
    · rw [hc, hc'] at hall; cases hall
    · exact lowA (.inr ⟨hw', h⟩)
    · rw [hc, hc'] at hall; cases hall
    · rw [hput] at g4
      have hne : hs.length - 1 - j ≠ hs.length - 1 - j' := by
        intro e
        have hlt := (List.getElem?_eq_some_iff.1 h4).1
        have g5 : (A.h.set (hs.length - 1 - j) (.row sz [z]))[hs.length - 1 - j']? = some (.row sz' []) := g4
        rw [← e, List.getElem?_set_self hlt] at g5
        cases g5
      have g5 : A.h[hs.length - 1 - j']? = some (.row sz' []) := by
        have : (A.h.set (hs.length - 1 - j) (.row sz [z]))[hs.length - 1 - j']? = some (.row sz' []) := g4
        rwa [List.getElem?_set_ne hne] at this
      refine fin (.inr ⟨hw', .inr (.inr (.inr (.inl ⟨j', sz', z', hc', ?_, g2, g3, g5, rfl, rfl⟩)))⟩) (.inr ⟨ew'.trans hw, .inr (.inr (.inr (.inl ⟨j, sz, z, hc, ?_, h2, h3, ?_, rfl, rfl⟩)))⟩) ?_
      · rw [← operands_slot ee]; exact g1
      · rw [operands_slot ee']; exact h1
      · rw [hput']
        show (A.h.set (hs.length - 1 - j') (.row sz' [z']))[hs.length - 1 - j]? = _
        rw [List.getElem?_set_ne (Ne.symm hne)]
        exact h4
      · exact List.set_comm _ _ (Ne.symm hne)
    · rw [hc, hc'] at hall; cases hall
    · rw [hc, hc'] at hall; cases hall
    · rw [hc, hc'] at hall; cases hall
    · rw [hc, hc'] at hall; cases hall
  · have hc := hst.1
    rcases q' with h | ⟨hw', ⟨hc', _⟩ | h | ⟨hc', _⟩ | ⟨_, _, _, hc', _⟩ | ⟨hc', _⟩ | ⟨hc', _⟩ | ⟨_, hc', _⟩ | ⟨hc', hE', _⟩⟩
    · exact lowA (.inl h)
    · rw [hc, hc'] at hall; cases hall
    · exact lowA (.inr ⟨hw', h⟩)
    · rw [hc, hc'] at hall; cases hall
    · rw [hc, hc'] at hall; cases hall
    · rw [hc, hc'] at hall; cases hall
    · rw [hc, hc'] at hall; cases hall
    · rw [hc, hc'] at hall; cases hall
    · rw [hc, hc'] at hall; cases hall
  · obtain ⟨hc, rfl, rfl, T, a, x, h1, h2⟩ := hnp
    have hE' : E' = .app [] := by
      rcases q' with ⟨_, _, h⟩ | ⟨_, ⟨_, h, _⟩ | ⟨_, h, _⟩ | ⟨hc', _⟩ | ⟨_, _, _, hc', _⟩ | ⟨hc', _⟩ | ⟨_, _, h, _⟩ | ⟨_, hc', _⟩ | ⟨hc', _, _⟩⟩
      · exact h
      · exact h
      · exact h
      · rw [hc, hc'] at hall; cases hall
      · rw [hc, hc'] at hall; cases hall
      · rw [hc, hc'] at hall; cases hall
      · exact h
      · rw [hc, hc'] at hall; cases hall
      · rw [hc, hc'] at hall; cases hall
    exact fin (still rfl) (still' hE') (by rw [hE'])
  · obtain ⟨t, hc, _⟩ := hap'
    rcases q' with h | ⟨hw', ⟨hc', _⟩ | h | ⟨hc', _⟩ | ⟨_, _, _, hc', _⟩ | ⟨hc', _⟩ | ⟨hc', _⟩ | ⟨_, hc', _⟩ | ⟨hc', hE', _⟩⟩
    · exact lowA (.inl h)
    · rw [hc, hc'] at hall; cases hall
    · exact lowA (.inr ⟨hw', h⟩)
    all_goals (rw [hc, hc'] at hall; cases hall)
  · obtain ⟨hc, rfl, hrest⟩ := hret
    have hE' : E' = .app [] := by
      rcases q' with ⟨_, _, h⟩ | ⟨_, ⟨_, h, _⟩ | ⟨_, h, _⟩ | ⟨hc', _⟩ | ⟨_, _, _, hc', _⟩ | ⟨hc', _⟩ | ⟨_, _, h, _⟩ | ⟨_, hc', _⟩ | ⟨_, h, _⟩⟩
      · exact h
      · exact h
      · exact h
      · rw [hc, hc'] at hall; simp [pairDC, isQui] at hall
      · rw [hc, hc'] at hall; simp [pairDC, isQui] at hall
      · rw [hc, hc'] at hall; simp [pairDC, isQui] at hall
      · exact h
      · rw [hc, hc'] at hall; simp [pairDC, isQui] at hall
      · exact h
    exact fin (still rfl) (still' hE') (by rw [hE'])

end Abs
end Go.Proofs.YtdellinghbppgaaGreatDoor

namespace Go.Proofs.YtdellinghbppgaaGreatDoor
namespace Abs
variable {P : Program} {H : Hints} {ops : Array Oper} {Q : Ex → AAct → Prop}

/-! ### what lies before -/
def befF (acc : Array Nat) (o : Oper) : Array Nat := acc.push (o.after.foldl (fun s e => if Region.binds .any e then s ||| 2 ^ e.on ||| acc.getD e.on 0 else s) 0)
def BefGood (p : List Oper) (acc : Array Nat) : Prop :=
  acc.size = p.length ∧ ∀ j i, (acc.getD j 0).testBit i = true → ∃ o, p[j]? = some o ∧ ∃ e, e ∈ o.after ∧ Region.binds .any e = true ∧ (i = e.on ∨ (e.on < j ∧ (acc.getD e.on 0).testBit i = true))

theorem foldl_bits (acc : Array Nat) (i : Nat) : ∀ (l : List Edge) (s : Nat), (l.foldl (fun s e => if Region.binds .any e then s ||| 2 ^ e.on ||| acc.getD e.on 0 else s) s).testBit i = true →
    s.testBit i = true ∨ ∃ e, e ∈ l ∧ Region.binds .any e = true ∧ (i = e.on ∨ (acc.getD e.on 0).testBit i = true)
  | [], s, h => .inl h
  | e :: l, s, h => by
    simp only [List.foldl_cons] at h
    rcases foldl_bits acc i l _ h with h | ⟨e', h1, h2⟩
    · by_cases hb : Region.binds .any e = true
      · simp only [hb, if_true, Nat.testBit_or, Bool.or_eq_true] at h
        rcases h with (h | h) | h
        · exact .inl h
        · refine .inr ⟨e, by simp, hb, .inl ?_⟩
          rw [Nat.testBit_two_pow] at h
          exact (of_decide_eq_true h).symm
        · exact .inr ⟨e, by simp, hb, .inr h⟩
      · simp only [hb, if_false, Bool.false_eq_true] at h
        exact .inl h
    · exact .inr ⟨e', by simp [h1], h2⟩

theorem befF_good {p : List Oper} {acc : Array Nat} (h : BefGood p acc) (o : Oper) : BefGood (p ++ [o]) (befF acc o) := by
  obtain ⟨h1, h2⟩ := h
  refine ⟨by simp [befF, h1], fun j i hj => ?_⟩
  have low : ∀ k, k < acc.size → (befF acc o).getD k 0 = acc.getD k 0 := by
    intro k hk
    simp [befF, Array.getD_eq_getD_getElem?, Array.getElem?_push, Nat.ne_of_lt hk]
  rcases Nat.lt_trichotomy j acc.size with hlt | heq | hgt
  · rw [low j hlt] at hj
    obtain ⟨o', h3, e, h4, h5, h6⟩ := h2 j i hj
    refine ⟨o', by rw [List.getElem?_append_left (by omega)]; exact h3, e, h4, h5, ?_⟩
    rcases h6 with h6 | ⟨h6, h7⟩
    · exact .inl h6
    · exact .inr ⟨h6, by rw [low e.on (by omega)]; exact h7⟩
  · subst heq
    refine ⟨o, by rw [h1]; simp, ?_⟩
    have hj' : (o.after.foldl (fun s e => if Region.binds .any e then s ||| 2 ^ e.on ||| acc.getD e.on 0 else s) 0).testBit i = true := by
      simpa [befF, Array.getD_eq_getD_getElem?] using hj
    rw [← Array.foldl_toList] at hj'
    rcases foldl_bits acc i _ _ hj' with h | ⟨e, h3, h4, h5⟩
    · simp at h
    · refine ⟨e, Array.mem_toList_iff.1 h3, h4, ?_⟩
      rcases h5 with h5 | h5
      · exact .inl h5
      · have hlt : e.on < acc.size := by
          rcases Nat.lt_or_ge e.on acc.size with hx | hx
          · exact hx
          · simp [Array.getD_eq_getD_getElem?, Array.getElem?_eq_none hx] at h5
        exact .inr ⟨hlt, by rw [low _ hlt]; exact h5⟩
  · have : (befF acc o).getD j 0 = 0 := by
      simp [befF, Array.getD_eq_getD_getElem?, Array.getElem?_eq_none (show (acc.push _).size ≤ j by simp; omega)]
    rw [this] at hj
    simp at hj

theorem before_good (ops : Array Oper) : BefGood ops.toList (Region.before ops) := by
  have key : ∀ (l p : List Oper) (acc : Array Nat), BefGood p acc → BefGood (p ++ l) (l.foldl befF acc) := by
    intro l
    induction l with
    | nil => intro p acc h; simpa using h
    | cons o l ih =>
      intro p acc h
      have := ih (p ++ [o]) _ (befF_good h o)
      simpa using this
  have h0 : BefGood [] #[] := ⟨rfl, fun j i h => by simp at h⟩
  have := key ops.toList [] #[] h0
  have heq : Region.before ops = ops.toList.foldl befF #[] := by
    unfold Region.before
    rw [← Array.foldl_toList]
    rfl
  rw [heq]
  simpa using this

/-- what has been run holds all that lies before it -/
def Down (ops : Array Oper) (listed : Array Bool) : Prop :=
  ∀ j o, listed.getD j false = true → ops[j]? = some o → ∀ e, e ∈ o.after → Region.binds .any e = true → listed.getD e.on false = true
theorem bef_listed {listed : Array Bool} (hD : Down ops listed) : ∀ (j i : Nat) (o : Oper), ops[j]? = some o → (∀ e, e ∈ o.after → Region.binds .any e = true → listed.getD e.on false = true) →
    befBit (Region.before ops) i j = true → listed.getD i false = true := by
  intro j
  induction j using Nat.strongRecOn with
  | _ j ih =>
    intro i o ho hall hb
    obtain ⟨o', h1, e, h2, h3, h4⟩ := (before_good ops).2 j i hb
    have ho' : ops[j]? = some o' := by simpa using h1
    rw [ho] at ho'
    cases ho'
    rcases h4 with rfl | ⟨h4, h5⟩
    · exact hall e h2 h3
    · have hl := hall e h2 h3
      obtain ⟨o2, h6, _⟩ := (before_good ops).2 e.on i h5
      have h6' : ops[e.on]? = some o2 := by simpa using h6
      exact ih e.on h4 i o2 h6' (hD e.on o2 hl h6') h5
theorem Down.set {listed : Array Bool} (hD : Down ops listed) {i : Nat} (hi : i ∈ Region.ready .any ops listed) : Down ops (listed.setIfInBounds i true) := by
  intro j o hj ho e he hb
  obtain ⟨h0, oi, hoi, hall⟩ := mem_ready.1 hi
  by_cases hji : j = i
  · subst hji
    rw [ho] at hoi; cases hoi
    exact getD_set_true (hall e he hb)
  · rw [getD_set_ne false (Ne.symm hji)] at hj
    exact getD_set_true (hD j o hj ho e he hb)

/-! ### any order, in the abstract machine -/
def AnyW (P : Program) (H : Hints) (ops : Array Oper) (Q : Ex → AAct → Prop) : Nat → Array Bool → Heap → AAct → Prop
  | 0, listed, _, A => Region.ready .any ops listed = [] ∧ Q .normal A
  | fuel + 1, listed, hs, A =>
    (Region.ready .any ops listed = [] → Q .normal A) ∧
    ∀ i ∈ Region.ready .any ops listed, ∀ o, ops[i]? = some o → stepD P H ops Q o (AnyW P H ops Q fuel (listed.setIfInBounds i true)) hs A

/-- all that has not been run comes behind i, or is i -/
def Behindi (listed : Array Bool) (i : Nat) : Prop := ∀ j, listed.getD j true = false → i ≤ j

theorem drawOk_pair (h : drawOk H ops = true) {i j : Nat} {x y : Oper} (hi : ops[i]? = some x) (hj : ops[j]? = some y) (hlt : i < j) : befBit (Region.before ops) i j = true ∨ pairOk H ops x y = true := by
  unfold drawOk at h
  simp only [List.all_eq_true, Bool.and_eq_true] at h
  have hy : (y, j) ∈ ops.toList.zipIdx := by rw [List.mem_zipIdx_iff_getElem?]; simpa using hj
  have hx : (x, i) ∈ ops.toList.zipIdx := by rw [List.mem_zipIdx_iff_getElem?]; simpa using hi
  have := (h (y, j) hy).2 (x, i) hx
  simp only [Bool.or_eq_true, Bool.not_eq_true', decide_eq_false_iff_not] at this
  rcases this with (h1 | h1) | h1
  · exact absurd hlt h1
  · exact .inl h1
  · exact .inr h1
theorem drawOk_edge (h : drawOk H ops = true) {j : Nat} {y : Oper} (hj : ops[j]? = some y) {e : Edge} (he : e ∈ y.after) (hb : Region.binds .any e = true) : e.on < j := by
  unfold drawOk at h
  simp only [List.all_eq_true, Bool.and_eq_true] at h
  have hy : (y, j) ∈ ops.toList.zipIdx := by rw [List.mem_zipIdx_iff_getElem?]; simpa using hj
  have := (h (y, j) hy).1.1.1
  have := (Array.all_eq_true_iff_forall_mem.1 this) e he
  simp only [hb, Bool.not_true, Bool.false_or, decide_eq_true_eq] at this
  exact this

theorem any_first {i : Nat} {oi : Oper} {v : AV} {E : HE} {hs : Heap} (hok : drawOk H ops = true) (hi : ops[i]? = some oi) :
    ∀ (fuel : Nat) (listed : Array Bool) (A : AAct), Down ops listed → Behindi listed i → i ∈ Region.ready .any ops listed → QS P H ops oi hs v E A →
      AnyW P H ops Q fuel (listed.setIfInBounds i true) hs (A.put oi.dst v (E.ap A.h)) → AnyW P H ops Q (fuel + 1) listed hs A := by
  intro fuel
  induction fuel with
  | zero =>
    intro listed A _ _ hr q k
    refine ⟨fun h => (by rw [h] at hr; cases hr), fun j hj o ho => ?_⟩
    by_cases hji : j = i
    · subst hji
      rw [hi] at ho; cases ho
      exact stepD_of_qs q k
    · have := ready_mono hj hji
      rw [k.1] at this
      cases this
  | succ fuel ih =>
    intro listed A hD hB hr q k
    refine ⟨fun h => (by rw [h] at hr; cases hr), fun j hj o ho => ?_⟩
    by_cases hji : j = i
    · subst hji
      rw [hi] at ho; cases ho
      exact stepD_of_qs q k
    · have h1 := k.2 j (ready_mono hj hji) o ho
      obtain ⟨hjun, oj, hoj, hall⟩ := mem_ready.1 hj
      rw [ho] at hoj; cases hoj
      have hlt : i < j := by
        have := hB j hjun
        omega
      have hp : pairOk H ops oi o = true := by
        rcases drawOk_pair hok hi ho hlt with h | h
        · have h2 := bef_listed hD j i o ho (fun e he hb => hall e he hb) h
          have h0 := (mem_ready.1 hr).1
          rcases Nat.lt_or_ge i listed.size with h' | h'
          · simp [h'] at h0 h2; rw [h0] at h2; cases h2
          · simp [Array.getElem?_eq_none h'] at h2
        · exact h
      have h2 := commute hp q h1
      refine stepD_mono ?_ h2
      rintro hs' A' ⟨rfl, q', k'⟩
      refine ih (listed.setIfInBounds j true) A' (hD.set hj) ?_ (ready_mono hr (Ne.symm hji)) q' ?_
      · intro x hx
        by_cases hxj : j = x
        · subst hxj; omega
        · rw [getD_set_ne true hxj] at hx; exact hB x hx
      · rw [Array.setIfInBounds_comm _ _ hji]
        exact k'

/-- how many have not been run -/
def unl (listed : Array Bool) : Nat := listed.toList.countP (· == false)
theorem countP_set : ∀ (l : List Bool) (j : Nat), l[j]? = some false → (l.set j true).countP (· == false) + 1 = l.countP (· == false)
  | [], j, h => by simp at h
  | b :: l, 0, h => by
    have : b = false := by simpa using h
    subst this
    simp
  | b :: l, j + 1, h => by
    have := countP_set l j (by simpa using h)
    simp only [List.set_cons_succ, List.countP_cons]
    omega
theorem unl_set {listed : Array Bool} {j : Nat} (h : listed.getD j true = false) : unl (listed.setIfInBounds j true) + 1 = unl listed := by
  have h1 : listed[j]? = some false := by
    rw [Array.getD_eq_getD_getElem?] at h
    cases hj : listed[j]? with
    | none => rw [hj] at h; simp at h
    | some b => rw [hj] at h; simp at h; rw [h]
  unfold unl
  rw [Array.toList_setIfInBounds]
  exact countP_set _ _ (by simpa using h1)
theorem unl_pos {listed : Array Bool} {j : Nat} (h : listed.getD j true = false) : 0 < unl listed := by
  have := unl_set h; omega
theorem free_step {o : Oper} {K : Heap → AAct → Prop} {hs : Heap} {A : AAct} (hf : isFreeOp o = true) (hq : isQui (dcls H o) = true) (k : ∀ v, K hs (A.put o.dst v A.h)) : stepD P H ops Q o K hs A := by
  have hc : dcls H o = .quiet := by cases hc : dcls H o <;> rw [hc] at hq <;> first | rfl | cases hq
  obtain ⟨dst, op, ty, pos, after, guard⟩ := o
  unfold stepD
  cases guard with
  | some g => simp [isFreeOp] at hf
  | none =>
    refine ⟨fun _ => ?_, fun h => (by cases h)⟩
    rw [hc]
    cases op <;> simp only [isFreeOp, Bool.false_eq_true] at hf
    · exact ⟨rfl, k _⟩
    · exact ⟨rfl, k _⟩
theorem TS.put {o o' : Oper} {A : AAct} (q : TS P H ops Q o A) (hap : ∀ d, o'.dst = some d → d ∉ o.looksAt ops) (v : AV) : TS P H ops Q o (A.put o'.dst v A.h) := by
  obtain ⟨tw, tc, f, args, u, t1, t2, t3⟩ := q
  refine ⟨(aWanted_put hap).trans tw, tc, f, args, u, ?_, ?_, fun T => ?_⟩
  · rw [← t1, put_h]
    exact aOp_congr o (eval_looks hap)
  · rw [put_h]; exact t2
  · have e : ({ A.put o'.dst v A.h with tmps := T } : AAct) = { A with tmps := T } := by
      cases o'.dst <;> simp [AAct.put]
    rw [e]; exact t3 T
theorem any_term {i : Nat} {oi : Oper} (hok : drawOk H ops = true) (hi : ops[i]? = some oi) :
    ∀ (fuel : Nat) (listed : Array Bool) (hs : Heap) (A : AAct), unl listed ≤ fuel → Down ops listed → Behindi listed i → i ∈ Region.ready .any ops listed → TS P H ops Q oi A → AnyW P H ops Q fuel listed hs A := by
  intro fuel
  induction fuel with
  | zero =>
    intro listed hs A hu _ _ hr _
    have := unl_pos (mem_ready.1 hr).1
    omega
  | succ fuel ih =>
    intro listed hs A hu hD hB hr q
    refine ⟨fun h => (by rw [h] at hr; cases hr), fun j hj o ho => ?_⟩
    by_cases hji : j = i
    · subst hji
      rw [hi] at ho; cases ho
      exact stepD_of_ts q
    · obtain ⟨hjun, oj, hoj, hall⟩ := mem_ready.1 hj
      rw [ho] at hoj; cases hoj
      have hlt : i < j := by
        have := hB j hjun
        omega
      have hp : pairOk H ops oi o = true := by
        rcases drawOk_pair hok hi ho hlt with h | h
        · have h2 := bef_listed hD j i o ho (fun e he hb => hall e he hb) h
          have h0 := (mem_ready.1 hr).1
          rcases Nat.lt_or_ge i listed.size with h' | h'
          · simp [h'] at h0 h2; rw [h0] at h2; cases h2
          · simp [Array.getElem?_eq_none h'] at h2
        · exact h
      unfold pairOk at hp
      simp only [Bool.and_eq_true] at hp
      obtain ⟨hpd, hap⟩ := hp
      obtain ⟨a1, a2, a3⟩ := Oper.apart_spec hap
      have hthr : ∀ c, pairDC .thr c = false := by intro c; cases c <;> rfl
      rw [q.2.1, hthr] at hpd
      simp only [isThr, Bool.false_or, Bool.true_and, Bool.and_eq_true] at hpd
      refine free_step hpd.1 hpd.2 fun v => ?_
      refine ih (listed.setIfInBounds j true) hs _ ?_ (hD.set hj) ?_ (ready_mono hr (Ne.symm hji)) (q.put a3 v)
      · have := unl_set hjun; omega
      · intro x hx
        by_cases hxj : j = x
        · subst hxj; omega
        · rw [getD_set_ne true hxj] at hx; exact hB x hx
/-- the first ones have been run -/
def firsts (n i : Nat) : Array Bool := ((List.range n).map fun j => decide (j < i)).toArray
theorem firsts_getD (n i j : Nat) (d : Bool) : (firsts n i).getD j d = if j < n then decide (j < i) else d := by
  unfold firsts
  rw [Array.getD_eq_getD_getElem?]
  by_cases h : j < n
  · simp [h]
  · simp [h]
theorem firsts_zero (n : Nat) : firsts n 0 = Array.replicate n false := by
  apply Array.ext
  · simp [firsts]
  · intro i h1 h2
    simp [firsts]
theorem firsts_set (n i : Nat) : (firsts n i).setIfInBounds i true = firsts n (i + 1) := by
  apply Array.ext
  · simp [firsts]
  · intro j h1 h2
    have hn : j < n := by simpa [firsts] using h2
    rw [Array.getElem_setIfInBounds (by simpa using h1)]
    simp only [firsts]
    by_cases h : i = j
    · subst h; simp
    · simp [h]; omega
theorem unl_firsts (n : Nat) : ∀ i, i ≤ n → unl (firsts n i) + i = n
  | 0, _ => by rw [firsts_zero]; simp [unl, List.countP_replicate]
  | i + 1, h => by
    have ih := unl_firsts n i (by omega)
    have := unl_set (listed := firsts n i) (j := i) (by rw [firsts_getD, if_pos (by omega)]; simp)
    rw [firsts_set] at this
    omega
theorem firsts_down (hok : drawOk H ops = true) (i : Nat) : Down ops (firsts ops.size i) := by
  intro j o hj ho e he hb
  rw [firsts_getD] at hj ⊢
  have hlt : j < ops.size := (Array.getElem?_eq_some_iff.1 ho).1
  have hlt' := drawOk_edge hok ho he hb
  simp only [hlt, if_true, decide_eq_true_eq] at hj
  rw [if_pos (by omega)]
  simp; omega
theorem firsts_ready (hok : drawOk H ops = true) {i : Nat} {o : Oper} (ho : ops[i]? = some o) : i ∈ Region.ready .any ops (firsts ops.size i) := by
  have hlt : i < ops.size := (Array.getElem?_eq_some_iff.1 ho).1
  refine mem_ready.2 ⟨?_, o, ho, fun e he hb => ?_⟩
  · rw [firsts_getD, if_pos hlt]; simp
  · have hlt' := drawOk_edge hok ho he hb
    rw [firsts_getD, if_pos (by omega)]; simpa using hlt'
theorem firsts_behind (i : Nat) : Behindi (firsts ops.size i) i := by
  intro j hj
  rw [firsts_getD] at hj
  split at hj
  · simpa using hj
  · cases hj

theorem draw_any (hok : drawOk H ops = true) : ∀ (l : List Oper) (i : Nat) (hs : Heap) (A : AAct), ops.toList.drop i = l → wpDraw P H ops Q l hs A → AnyW P H ops Q (ops.size - i) (firsts ops.size i) hs A := by
  intro l
  induction l with
  | nil =>
    intro i hs A hi h
    have hlen : ops.size ≤ i := by
      have := congrArg List.length hi
      simp at this
      omega
    have h0 : ops.size - i = 0 := by omega
    rw [h0]
    refine ⟨?_, h⟩
    refine List.eq_nil_iff_forall_not_mem.2 fun j hj => ?_
    obtain ⟨h1, o, ho, _⟩ := mem_ready.1 hj
    have hlt : j < ops.size := (Array.getElem?_eq_some_iff.1 ho).1
    rw [firsts_getD, if_pos hlt] at h1
    simp at h1
    omega
  | cons o rest ih =>
    intro i hs A hi h
    have hlt : i < ops.size := by
      have := congrArg List.length hi
      simp at this
      omega
    have hoi : ops[i]? = some o := by
      have h1 : ops.toList[i]? = some o := by
        have := List.getElem?_drop (xs := ops.toList) (i := i) (j := 0)
        rw [hi] at this
        simpa using this.symm
      simpa using h1
    have hnext : ops.toList.drop (i + 1) = rest := by
      have := congrArg List.tail hi
      simpa [List.tail_drop] using this
    have hfuel : ops.size - i = (ops.size - (i + 1)) + 1 := by omega
    rw [wpDraw_cons] at h
    have h' : stepD P H ops Q o (AnyW P H ops Q (ops.size - (i + 1)) (firsts ops.size (i + 1))) hs A := stepD_mono (fun hs A hk => ih (i + 1) hs A hnext hk) h
    rw [hfuel]
    by_cases ht : dcls H o = .thr
    · rcases thr_of_stepD ht h' with ⟨v, E, q, k⟩ | q
      · rw [← firsts_set] at k
        exact any_first hok hoi _ _ A (firsts_down hok i) (firsts_behind i) (firsts_ready hok hoi) q k
      · refine any_term hok hoi _ _ hs A ?_ (firsts_down hok i) (firsts_behind i) (firsts_ready hok hoi) q
        have := unl_firsts ops.size i (Nat.le_of_lt hlt)
        omega
    by_cases hb : dcls H o ≠ .bar ∨ aWanted ops A o = some false
    · obtain ⟨v, E, q, k⟩ := qs_of_stepD (hb.imp (fun h => ⟨h, ht⟩) id) h'
      rw [← firsts_set] at k
      exact any_first hok hoi _ _ A (firsts_down hok i) (firsts_behind i) (firsts_ready hok hoi) q k
    · have hb1 : dcls H o = .bar := Classical.byContradiction fun hn => hb (.inl hn)
      refine ⟨fun h0 => ?_, fun j hj oj hoj => ?_⟩
      · have := firsts_ready hok hoi
        rw [h0] at this
        cases this
      · have hji : j = i := by
          obtain ⟨h1, o', ho', hall⟩ := mem_ready.1 hj
          rw [hoj] at ho'; cases ho'
          have hjlt : j < ops.size := (Array.getElem?_eq_some_iff.1 hoj).1
          have hij := firsts_behind (ops := ops) i j h1
          rcases Nat.lt_or_ge i j with h2 | h2
          · exfalso
            rcases drawOk_pair hok hoi hoj h2 with h3 | h3
            · have h4 := bef_listed (firsts_down hok i) j i oj hoj hall h3
              rw [firsts_getD, if_pos hlt] at h4
              simp at h4
            · have hall' : ∀ c, pairDC .bar c = false := by intro c; cases c <;> rfl
              unfold pairOk at h3
              rw [hb1, hall'] at h3
              simp [isThr] at h3
          · omega
        subst hji
        rw [hoi] at hoj; cases hoj
        rw [firsts_set]
        exact h'

/-! ### any order, in the model's machine -/
variable {M0 : Nat → Prop} {S0 : Mem} {b : Frame} {cs0 : List Frame}

theorem subH_set {hs h : Heap} (hx : SubH hs h) {id : Nat} (hd : deadAt hs id = true) (ob : AObj) : SubH hs (h.set id ob) := by
  intro x o ho hn
  by_cases hxi : id = x
  · subst hxi
    unfold deadAt at hd
    rw [ho] at hd
    cases o <;> first | (cases hd; done) | (cases hn; done)
  · rw [List.getElem?_set_ne hxi]; exact hx x o ho hn

theorem stepD_or {o : Oper} {K : Heap → AAct → Prop} {hs : Heap} {A : AAct} (hx : SubH hs A.h) (k : stepD P H ops Q o K hs A) :
    (aWanted ops A o = some false ∧ K hs (A.put o.dst (.p (.tuple [])) A.h)) ∨
    (aWanted ops A o = some true ∧ orK P A o.dst (fun B => ∃ hs', SubH hs' B.h ∧ K hs' B) Q (aOp P (mutOf H) o A.eval A.h)) ∨
    (aWanted ops A o = some true ∧ ∃ v E, SlotAt P H o hs v E A ∧ SubH hs (E.ap A.h) ∧ K hs (A.put o.dst v (E.ap A.h))) := by
  have hcase : (∃ v E, QS P H ops o hs v E A ∧ K hs (A.put o.dst v (E.ap A.h))) ∨ TS P H ops Q o A ∨ ¬ (dcls H o ≠ .bar ∨ aWanted ops A o = some false) := by
    by_cases ht : dcls H o = .thr
    · rcases thr_of_stepD ht k with h | h
      · exact .inl h
      · exact .inr (.inl h)
    · by_cases hb : dcls H o ≠ .bar ∨ aWanted ops A o = some false
      · exact .inl (qs_of_stepD (hb.imp (fun h => ⟨h, ht⟩) id) k)
      · exact .inr (.inr hb)
  rcases hcase with ⟨v, E, q, k1⟩ | ⟨tw, tc, f, args, u, t1, t2, t3⟩ | hb
  · have fin : ∀ (r : OR), Qv P A.h r v → K hs (A.put o.dst v A.h) → orK P A o.dst (fun B => ∃ hs', SubH hs' B.h ∧ K hs' B) Q r := by
      intro r hr hk
      rcases hr with rfl | ⟨f, args, rfl, hc⟩
      · exact ⟨hs, by rw [put_h]; exact hx, hk⟩
      · have := hc A.h (SubH.refl _)
        intro M0 m w cargs hS ha
        obtain ⟨h1, h2⟩ := this M0 m w cargs hS ha
        refine ⟨h1, h2.mono fun _ _ hb => ?_⟩
        obtain ⟨r, h', m', ⟨rfl, rfl⟩, rest⟩ := hb
        exact ⟨.ret v, _, m', ⟨hs, by rw [put_h]; exact hx, hk⟩, rest⟩
    rcases q with ⟨hw, rfl, rfl⟩ | ⟨hw, ⟨hc, rfl, q⟩ | ⟨hc, rfl, q⟩ | ⟨hc, t, rfl, q⟩ | q | ⟨hc, T, a, x, id, ver, i, kk, ob, h1, h2, h3, h4, rfl, rfl⟩ | ⟨hc, rfl, rfl, T, a, x, h1, h2⟩ | ⟨t, hc, hE, hq⟩ | ⟨hc, rfl, f, args, g1, g2⟩⟩
    · exact .inl ⟨hw, by simpa [HE.ap] using k1⟩
    · exact .inr (.inl ⟨hw, fin _ q (by simpa [HE.ap] using k1)⟩)
    · refine .inr (.inl ⟨hw, fin _ ?_ (by simpa [HE.ap] using k1)⟩)
      have hpre := pre_op (P := P) (mu := mutOf H) (o := o) A.eval (dcls_low hc) hs A.h hx
      rcases q with q | ⟨f, args, q, hcall⟩
      · exact .inl (hpre.1 _ q)
      · exact .inr ⟨f, args, hpre.2 _ _ q, fun h' hs' => hcall h' (hx.trans hs')⟩
    · refine .inr (.inl ⟨hw, ?_⟩)
      rw [q]
      exact ⟨hs, by rw [put_h]; exact hx.trans (SubH.app _ _), k1⟩
    · refine .inr (.inr ⟨hw, v, E, q, ?_, k1⟩)
      obtain ⟨j, sz, z, hc, h1, h2, h3, h4, rfl, rfl⟩ := q
      exact subH_set hx h3 _
    · refine .inr (.inl ⟨hw, ?_⟩)
      have hop : aOp P (mutOf H) o A.eval A.h = .skip (A.h.set id ob) := by
        unfold aOp
        rw [h1]
        show aStore P T (A.eval a) (A.eval x) A.h = _
        rw [h2]; exact h4
      rw [hop]
      exact ⟨hs, by rw [put_h]; exact subH_set hx h3 _, k1⟩
    · refine .inr (.inl ⟨hw, ?_⟩)
      have hop : aOp P (mutOf H) o A.eval A.h = .skip A.h := by
        unfold aOp
        rw [h1]
        exact h2
      rw [hop]
      exact ⟨hs, by rw [put_h]; exact hx, by simpa [HE.ap] using k1⟩
    · refine .inr (.inl ⟨hw, ?_⟩)
      rw [hq]
      refine ⟨hs, ?_, k1⟩
      rw [put_h]
      rcases hE with ⟨l, rfl⟩ | ⟨id, ob, rfl, hd⟩
      · exact hx.trans (SubH.app _ _)
      · exact subH_set hx hd _
    · exact .inr (.inl ⟨hw, fin _ (.inr ⟨f, args, g1, g2⟩) (by simpa [HE.ap] using k1)⟩)
  · refine .inr (.inl ⟨tw, ?_⟩)
    rw [t1]
    intro M0 m w cargs hS ha
    obtain ⟨h1, h2⟩ := t2 M0 m w cargs hS ha
    refine ⟨h1, h2.mono fun _ _ hb => ?_⟩
    obtain ⟨r, h', m', ⟨rfl, rfl⟩, rest⟩ := hb
    exact ⟨.panic u, _, m', t3 A.tmps, rest⟩
  · have hb1 : dcls H o = .bar := Classical.byContradiction fun hn => hb (.inl hn)
    unfold stepD at k
    cases hw : aWanted ops A o with
    | none => rw [hw] at k; exact k.elim
    | some b =>
      rw [hw, hb1] at k
      cases b with
      | false => exact absurd (.inr hw) hb
      | true =>
        have k1 : orK P A o.dst (fun B => K B.h B) Q (aOp P (mutOf H) o A.eval A.h) := k.1 rfl
        exact .inr (.inl ⟨rfl, orK_mono (fun B hB => ⟨B.h, SubH.refl _, hB⟩) k1⟩)

theorem any_sim {n : Nat} {k : List Item} (hd : ops.toList.all (dstOk n) = true) : ∀ (fuel t : Nat) (listed : Array Bool) (hs : Heap) {m : List (Option Nat)} {A : AAct} {a : Act} {w : World}, SubH hs A.h →
    Rel P M0 S0 b cs0 m A a w → A.n = n → AnyW P H ops Q fuel listed hs A →
      Sim P M0 S0 b cs0 n (lone (b.atR a (.inRegion ops (Region.linearise.go .any ops fuel t listed []) :: k)) (csAt A.rc cs0) w) k Q := by
  intro fuel
  induction fuel with
  | zero =>
    intro t listed hs m A a w hx hr hn h
    exact ⟨.normal, A, m, a, w, h.2, hn, hr, .one (by simp only [Region.linearise.go, List.reverse_nil]; exact stepR_region_end)⟩
  | succ fuel ih =>
    intro t listed hs m A a w hx hr hn h
    obtain ⟨h0, h1⟩ := h
    have hgo : Region.linearise.go .any ops (fuel + 1) t listed [] = match (Region.ready .any ops listed)[t % (Region.ready .any ops listed).length]? with
      | some i => Region.linearise.go .any ops fuel (t / (Region.ready .any ops listed).length) (listed.setIfInBounds i true) [i]
      | none => [].reverse := rfl
    rw [hgo]
    cases hi : (Region.ready .any ops listed)[t % (Region.ready .any ops listed).length]? with
    | none =>
      have hnil : Region.ready .any ops listed = [] := by
        cases hrr : Region.ready .any ops listed with
        | nil => rfl
        | cons x xs =>
          rw [hrr] at hi
          have hlt : t % (x :: xs).length < (x :: xs).length := Nat.mod_lt _ (by simp)
          simp at hi
          simp at hlt
          omega
      exact ⟨.normal, A, m, a, w, h0 hnil, hn, hr, .one (by simp only [List.reverse_nil]; exact stepR_region_end)⟩
    | some i =>
      simp only []
      rw [linearise_go_acc, List.reverse_singleton, List.singleton_append]
      have hmem := List.mem_of_getElem? hi
      obtain ⟨_, o, ho, _⟩ := mem_ready.1 hmem
      have hstep := h1 i hmem o ho
      have hdo : dstOk A.n o = true := by
        rw [hn]
        exact List.all_eq_true.1 hd o (Array.mem_toList_iff.2 (Array.mem_of_getElem? ho))
      rcases stepD_or hx hstep with ⟨hw, hk⟩ | ⟨hw, hk⟩ | ⟨hw, v, E, hsl, hxs, hk⟩
      · have hwm := hr.wanted hw
        have hs1 := stepR_op_skip (P := P) (b := b) (k := k) (cs := csAt A.rc cs0) (w := w) (rest := Region.linearise.go .any ops fuel (t / (Region.ready .any ops listed).length) (listed.setIfInBounds i true) []) (wanted_false ho hwm)
        simp only [ho, Option.bind_some] at hs1
        have hr' := hr.put (dst := o.dst) (dst_lt hdo) (undef_rep _ _)
        have := ih (t / (Region.ready .any ops listed).length) (listed.setIfInBounds i true) hs (by rw [put_h]; exact hx) hr' ((put_n _ _ _ _).trans hn) hk
        rw [put_rc] at this
        exact this.of_steps (.one hs1)
      · have hwm := hr.wanted hw
        rcases op_step (i := i) (rest := Region.linearise.go .any ops fuel (t / (Region.ready .any ops listed).length) (listed.setIfInBounds i true) []) (k := k) ho hdo hwm hr hk with ⟨A', m', a', w', ⟨hs', hx', hK⟩, hn', hr', hs1⟩ | ⟨v, A', m', a', w', v', todo, hQ, hn', hr', hv, hs1⟩
        · exact (ih _ _ hs' hx' hr' (hn'.trans hn) hK).of_steps hs1
        · exact ⟨.panic v, A', m', a', w', hQ, hn'.trans hn, hr', v', todo, hv, hs1⟩
      · have hwm := hr.wanted hw
        obtain ⟨j, sz, z, hc, g1, g2, g3, g4, rfl, rfl⟩ := hsl
        have hso := dcls_slot hc
        have hnd : ∀ c, o.op ≠ .defer c := by
          intro c hcc
          rw [hcc] at hso
          cases hso
        have hok := slot_ok (P := P) (o := o) hr.hok g4 hr.eval g1 g2
        obtain ⟨m', a', w', hr', hs1⟩ := op_step_val (i := i) (rest := Region.linearise.go .any ops fuel (t / (Region.ready .any ops listed).length) (listed.setIfInBounds i true) []) (k := k) ho hdo hwm hr hnd hok
        have := ih (t / (Region.ready .any ops listed).length) (listed.setIfInBounds i true) hs (by rw [put_h]; exact hxs) hr' ((put_n _ _ _ _).trans hn) hk
        rw [put_rc] at this
        exact this.of_steps hs1

theorem maskL_sub : ∀ (l : List Nat) (h : Heap), SubH (maskL h l) h ∧ (maskL h l).length = h.length
  | [], h => ⟨SubH.refl _, rfl⟩
  | id :: l, h => by
    obtain ⟨h1, h2⟩ := maskL_sub l (h.set id .dead)
    refine ⟨h1.trans fun x o ho hn => ?_, by rw [maskL, h2]; simp⟩
    by_cases hxi : id = x
    · subst hxi
      have hlt := (List.getElem?_eq_some_iff.1 ho).1
      rw [List.getElem?_set_self (by simpa using hlt)] at ho
      cases ho
      cases hn
    · rwa [List.getElem?_set_ne hxi] at ho
theorem drawHs_sub (H : Hints) (ops : List Oper) (A : AAct) : SubH (drawHs H ops A) (drawA H ops A).h := by
  intro x o ho hn
  obtain ⟨h1, h2⟩ := maskL_sub (stoIds H A.tmps ops) A.h
  unfold drawHs at ho
  show (A.h ++ _)[x]? = _
  rcases Nat.lt_or_ge x A.h.length with hl | hl
  · rw [List.getElem?_append_left (by omega)] at ho
    rw [List.getElem?_append_left hl]
    exact h1 x o ho hn
  · rw [List.getElem?_append_right (by omega)] at ho
    have := List.mem_of_getElem? ho
    simp only [List.mem_map] at this
    obtain ⟨_, _, rfl⟩ := this
    cases hn

theorem Rel.drew {m : List (Option Nat)} {A : AAct} {a : Act} {w : World} (hr : Rel P M0 S0 b cs0 m A a w) : Rel P M0 S0 b cs0 m A a { w with drawn := w.drawn + 1 } :=
  hr.ahead (Ev.drew _ ⟨m, A.h, w⟩) (HOk.drew hr.hok)

theorem drawLaw (hm : P.follows .mixedOrders = true) : DrawLaw P := by
  intro M0 S0 b cs0 m A a w H ops Q n id k hd hok hr hn h
  have hany := draw_any hok ops.toList 0 _ _ rfl h
  rw [firsts_zero, Nat.sub_zero] at hany
  obtain ⟨m', hr'⟩ := hr.resv (resvs H ops.toList)
  have hs := stepR_region_draw (P := P) (b := b) (a := a) (k := k) (cs := csAt A.rc cs0) (w := w) (ops := ops) (id := id)
  refine Sim.of_steps (.one hs) ?_
  simp only [Region.schedule, hm, Bool.true_or, if_true]
  exact any_sim (A := drawA H ops.toList A) hd ops.size _ _ _ (drawHs_sub H ops.toList A) hr'.drew hn hany

end Abs
end Go.Proofs.YtdellinghbppgaaGreatDoor
