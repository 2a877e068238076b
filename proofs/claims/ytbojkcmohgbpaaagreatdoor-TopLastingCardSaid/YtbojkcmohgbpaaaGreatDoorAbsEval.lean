/-
  THE WALK OF THE ABSTRACT MACHINE BY REWRITING: what is not to be looked into stands in places that rewriting leaves alone. Pure contracts.
-/
import Derived.Test.YtbojkcmohgbpaaaGreatDoorAbsFunX
import Derived.Test.YtbojkcmohgbpaaaGreatDoorAbsDraw
namespace Go.Proofs.YtbojkcmohgbpaaaGreatDoor
namespace Abs
class Bx (α : Type) where
  val : α
abbrev Cont := Ex → AAct → Prop
structure CodeK where
  P : Program
  H : Hints
  c : Code
  Q : Cont
structure OpsK where
  P : Program
  H : Hints
  ops : Array Oper
  rest : List Oper
  Q : Cont
structure OpK where
  P : Program
  H : Hints
  ops : Array Oper
  rest : List Oper
  Q : Cont
  dst : Option Tmp
structure DrK where
  P : Program
  H : Hints
  ops : Array Oper
  rest : List Oper
  Q : Cont
structure DOpK where
  P : Program
  H : Hints
  ops : Array Oper
  rest : List Oper
  Q : Cont
  op : Oper
def W [k : Bx CodeK] (A : AAct) : Prop := wp k.val.P k.val.H k.val.c k.val.Q A
def WO [k : Bx OpsK] (A : AAct) : Prop := wpOps k.val.P k.val.H k.val.ops k.val.Q k.val.rest A
def WQ [k : Bx Cont] (e : Ex) (A : AAct) : Prop := k.val e A
def WR [k : Bx OpK] (A : AAct) (r : OR) : Prop := orK k.val.P A k.val.dst (wpOps k.val.P k.val.H k.val.ops k.val.Q k.val.rest) k.val.Q r
def WB [k : Bx ((Unit → Prop) × (Unit → Prop))] (b : Bool) : Prop := Both b k.val.1 k.val.2
def WN [k : Bx ((Unit → Prop) × (Unit → Prop))] (b : Option Bool) : Prop := wantK k.val.1 k.val.2 b
def WC [k : Bx ((Unit → Prop) × (Unit → Prop))] (v : AV) : Prop := condK k.val.1 k.val.2 v
def WF [k : Bx OpK] (A : AAct) (f : FuncId) (args : List AV) : Prop := orK k.val.P A k.val.dst (wpOps k.val.P k.val.H k.val.ops k.val.Q k.val.rest) k.val.Q (.call f args)
def WD [k : Bx DrK] (hs : Heap) (A : AAct) : Prop := wpDraw k.val.P k.val.H k.val.ops k.val.Q k.val.rest hs A
def WDC [k : Bx DOpK] (hs : Heap) (A : AAct) (d : DC) : Prop :=
  dcK (fun _ => orK k.val.P A k.val.op.dst (fun B => wpDraw k.val.P k.val.H k.val.ops k.val.Q k.val.rest B.h B) k.val.Q (aOp k.val.P (mutOf k.val.H) k.val.op A.eval A.h))
      (fun _ => allK A.h (fun v h => wpDraw k.val.P k.val.H k.val.ops k.val.Q k.val.rest hs (A.put k.val.op.dst v h)) (aOp k.val.P (mutOf k.val.H) k.val.op A.eval A.h))
      (fun _ => quK k.val.P A.h (fun v => wpDraw k.val.P k.val.H k.val.ops k.val.Q k.val.rest hs (A.put k.val.op.dst v A.h)) (aOp k.val.P (mutOf k.val.H) k.val.op A.eval A.h))
      (fun _ => quK k.val.P hs (fun v => wpDraw k.val.P k.val.H k.val.ops k.val.Q k.val.rest hs (A.put k.val.op.dst v A.h)) (aOp k.val.P (mutOf k.val.H) k.val.op A.eval hs))
      (fun j sz => slotK hs A.h j sz (fun v h => wpDraw k.val.P k.val.H k.val.ops k.val.Q k.val.rest hs (A.put k.val.op.dst v h)) (slotVal k.val.P A.eval k.val.op.op))
      (fun _ => stoK k.val.P hs A.h A.eval (fun h => wpDraw k.val.P k.val.H k.val.ops k.val.Q k.val.rest hs (A.put k.val.op.dst (.p (.tuple [])) h)) k.val.op.op)
      (fun _ => nopK k.val.P A.h A.eval (wpDraw k.val.P k.val.H k.val.ops k.val.Q k.val.rest hs (A.put k.val.op.dst (.p (.tuple [])) A.h)) k.val.op.op)
      (fun _ => appK hs A.h (fun v h => wpDraw k.val.P k.val.H k.val.ops k.val.Q k.val.rest hs (A.put k.val.op.dst v h)) (aOp k.val.P (mutOf k.val.H) k.val.op A.eval A.h))
      (fun _ => thrK k.val.P k.val.Q A (fun v => wpDraw k.val.P k.val.H k.val.ops k.val.Q k.val.rest hs (A.put k.val.op.dst v A.h)) (aOp k.val.P (mutOf k.val.H) k.val.op A.eval A.h))
      d
def WDS [k : Bx DOpK] (hs : Heap) (A : AAct) (j sz : Nat) (z : Option AV) : Prop := slotK hs A.h j sz (fun v h => wpDraw k.val.P k.val.H k.val.ops k.val.Q k.val.rest hs (A.put k.val.op.dst v h)) z
def WDK [k : Bx DOpK] (hs : Heap) (A : AAct) (T : TypeId) (a y : AV) : Prop :=
  match a with
  | .ptr id ver i o => deadAt hs id = true ∧ skipK (fun h => wpDraw k.val.P k.val.H k.val.ops k.val.Q k.val.rest hs (A.put k.val.op.dst (.p (.tuple [])) h)) (aStore k.val.P T (.ptr id ver i o) y A.h)
  | _ => False
def WDT [k : Bx DOpK] (hs : Heap) (A : AAct) (r : OR) : Prop := skipK (fun h => wpDraw k.val.P k.val.H k.val.ops k.val.Q k.val.rest hs (A.put k.val.op.dst (.p (.tuple [])) h)) r
def WDB [k : Bx DOpK] (A : AAct) (r : OR) : Prop := orK k.val.P A k.val.op.dst (fun B => wpDraw k.val.P k.val.H k.val.ops k.val.Q k.val.rest B.h B) k.val.Q r
def WDA [k : Bx DOpK] (hs : Heap) (A : AAct) (r : OR) : Prop := allK A.h (fun v h => wpDraw k.val.P k.val.H k.val.ops k.val.Q k.val.rest hs (A.put k.val.op.dst v h)) r
def WDP [k : Bx DOpK] (hs : Heap) (A : AAct) (r : OR) : Prop := appK hs A.h (fun v h => wpDraw k.val.P k.val.H k.val.ops k.val.Q k.val.rest hs (A.put k.val.op.dst v h)) r
def WDR [k : Bx DOpK] (hs : Heap) (A : AAct) (r : OR) : Prop := thrK k.val.P k.val.Q A (fun v => wpDraw k.val.P k.val.H k.val.ops k.val.Q k.val.rest hs (A.put k.val.op.dst v A.h)) r
def WDQ [k : Bx DOpK] (hs h0 : Heap) (A : AAct) (r : OR) : Prop := quK k.val.P h0 (fun v => wpDraw k.val.P k.val.H k.val.ops k.val.Q k.val.rest hs (A.put k.val.op.dst v A.h)) r
def H0 : Hints := fun _ => .std
def hintL : List (Nat × Hint) → Hints
  | [], _ => .std
  | (k, h) :: l, t => if t = k then h else hintL l t
theorem hintL_nil (t : Nat) : hintL [] t = .std := rfl
theorem hintL_cons (k : Nat) (h : Hint) (l : List (Nat × Hint)) (t : Nat) : hintL ((k, h) :: l) t = if t = k then h else hintL l t := rfl
section
variable (P : Program) (H : Hints) (Q : Cont) (A : AAct)
theorem W_def (c : Code) : wp P H c Q A = @W ⟨P, H, c, Q⟩ A := propext Iff.rfl
theorem W_skip : @W ⟨P, H, .skip, Q⟩ A = @WQ ⟨Q⟩ .normal A := propext Iff.rfl
theorem W_region (i : Nat) (l : List Oper) : @W ⟨P, H, .region i ⟨l⟩ false, Q⟩ A = @WO ⟨P, H, ⟨l⟩, l, Q⟩ A := propext Iff.rfl
theorem W_drawH (i : Nat) (l : List Oper) : @W ⟨P, H, .region i ⟨l⟩ true, Q⟩ A = @WD ⟨P, H, ⟨l⟩, l, Q⟩ (drawHs H l A) (drawA H l A) := propext Iff.rfl
theorem dcls_std {o : Oper} : (∀ j sz, dcls H0 o ≠ .slot j sz) ∧ dcls H0 o ≠ .sto ∧ ∀ t, dcls H0 o ≠ .app t := by
  have h0 : ∀ op, stoDC H0 op = .bar := by
    intro op
    unfold stoDC
    split
    · rfl
    · rfl
  unfold dcls
  split
  · rw [h0]; exact ⟨fun j sz => by simp, by simp, fun t => by simp⟩
  · show (∀ j sz, (if isAllocOp o.op = true then DC.alloc else if isQuietOp o.op = true then .quiet else .bar) ≠ .slot j sz) ∧ (if isAllocOp o.op = true then DC.alloc else if isQuietOp o.op = true then .quiet else .bar) ≠ .sto ∧ ∀ t, (if isAllocOp o.op = true then DC.alloc else if isQuietOp o.op = true then .quiet else .bar) ≠ .app t
    split
    · exact ⟨fun j sz => by simp, by simp, fun t => by simp⟩
    · split
      · exact ⟨fun j sz => by simp, by simp, fun t => by simp⟩
      · exact ⟨fun j sz => by simp, by simp, fun t => by simp⟩
theorem resvs_std : ∀ l : List Oper, resvs H0 l = []
  | [] => rfl
  | o :: l => by
    unfold resvs
    split
    · rename_i j sz h; exact absurd h (dcls_std.1 j sz)
    · exact resvs_std l
theorem stoIds_std (T : Nat → AV) : ∀ l : List Oper, stoIds H0 T l = []
  | [] => rfl
  | o :: l => by
    unfold stoIds
    split
    · rename_i h _; exact absurd h dcls_std.2.1
    · rename_i h; exact absurd h (dcls_std.2.2 _)
    · exact stoIds_std T l
theorem W_draw (i : Nat) (l : List Oper) : @W ⟨P, H0, .region i ⟨l⟩ true, Q⟩ A = @WD ⟨P, H0, ⟨l⟩, l, Q⟩ A.h A := by
  rw [W_drawH]
  unfold drawHs drawA
  rw [resvs_std, stoIds_std]
  simp [maskL]
theorem W_seq (a b : Code) : @W ⟨P, H, .seq a b, Q⟩ A = @W ⟨P, H, a, seqK (wp P H b Q) Q⟩ A := propext Iff.rfl
theorem W_cond (c : Operand) (x y : Code) : @W ⟨P, H, .cond c x y, Q⟩ A = @WC ⟨fun _ => wp P H x Q A, fun _ => wp P H y Q A⟩ (A.eval c) := propext Iff.rfl
theorem W_block (id : Nat) (b : Code) : @W ⟨P, H, .block id b, Q⟩ A = @W ⟨P, H, b, blockK id Q⟩ A := propext Iff.rfl
theorem W_scope (b : Code) : @W ⟨P, H, .scope b, Q⟩ A = @W ⟨P, H, b, Q⟩ A := propext Iff.rfl
theorem W_label (l : Nat) : @W ⟨P, H, .label l, Q⟩ A = @WQ ⟨Q⟩ .normal A := propext Iff.rfl
theorem W_exit (id : Nat) : @W ⟨P, H, .exit id, Q⟩ A = @WQ ⟨Q⟩ (.exit id) A := propext Iff.rfl
theorem W_ret : @W ⟨P, H, .ret, Q⟩ A = @WQ ⟨Q⟩ .ret A := propext Iff.rfl
theorem WQ_seq_normal (b : Code) (R : Cont) : @WQ ⟨seqK (wp P H b Q) R⟩ .normal A = @W ⟨P, H, b, Q⟩ A := propext Iff.rfl
theorem WQ_seq_exit (K : AAct → Prop) (j : Nat) : @WQ ⟨seqK K Q⟩ (.exit j) A = @WQ ⟨Q⟩ (.exit j) A := propext Iff.rfl
theorem WQ_seq_ret (K : AAct → Prop) : @WQ ⟨seqK K Q⟩ .ret A = @WQ ⟨Q⟩ .ret A := propext Iff.rfl
theorem WQ_seq_panic (K : AAct → Prop) (v : PV) : @WQ ⟨seqK K Q⟩ (.panic v) A = @WQ ⟨Q⟩ (.panic v) A := propext Iff.rfl
theorem WQ_block_normal (id : Nat) : @WQ ⟨blockK id Q⟩ .normal A = @WQ ⟨Q⟩ .normal A := propext Iff.rfl
theorem WQ_block_exit (id j : Nat) : @WQ ⟨blockK id Q⟩ (.exit j) A = if j = id then @WQ ⟨Q⟩ .normal A else @WQ ⟨Q⟩ (.exit j) A := propext Iff.rfl
theorem WQ_block_ret (id : Nat) : @WQ ⟨blockK id Q⟩ .ret A = @WQ ⟨Q⟩ .ret A := propext Iff.rfl
theorem WQ_block_panic (id : Nat) (v : PV) : @WQ ⟨blockK id Q⟩ (.panic v) A = @WQ ⟨Q⟩ (.panic v) A := propext Iff.rfl
theorem WO_nil (ops : Array Oper) : @WO ⟨P, H, ops, [], Q⟩ A = @WQ ⟨Q⟩ .normal A := propext Iff.rfl
theorem both_true (X Y : Unit → Prop) : Both true X Y = X () := propext ⟨fun h => h.1 rfl, fun h => ⟨fun _ => h, fun h' => (by cases h')⟩⟩
theorem both_false (X Y : Unit → Prop) : Both false X Y = Y () := propext ⟨fun h => h.2 rfl, fun h => ⟨fun h' => (by cases h'), fun _ => h⟩⟩
theorem aOp_pos (m : Nat → Bool) (dst : Option Tmp) (op : Op) (ty : TypeId) (pos : String) (after : Array Edge) (g : Option (Nat × Bool)) (e : Operand → AV) (h : Heap) :
    aOp P m ⟨dst, op, ty, pos, after, g⟩ e h = aOp P m ⟨dst, op, ty, "", #[], none⟩ e h := by cases op <;> rfl
theorem WO_cons (ops : Array Oper) (rest : List Oper) (dst : Option Tmp) (op : Op) (ty : TypeId) (pos : String) (after : Array Edge) :
    @WO ⟨P, H, ops, ⟨dst, op, ty, pos, after, none⟩ :: rest, Q⟩ A = @WR ⟨P, H, ops, rest, Q, dst⟩ A (aOp P (mutOf H) ⟨dst, op, ty, "", #[], none⟩ A.eval A.h) := by
  rw [← aOp_pos P (mutOf H) dst op ty pos after none]
  unfold WO WR
  simp only [wpOps, aWanted, wantK]
  exact both_true _ _
theorem WO_guard (ops : Array Oper) (rest : List Oper) (dst : Option Tmp) (op : Op) (ty : TypeId) (pos : String) (after : Array Edge) (j : Nat) (b : Bool) :
    @WO ⟨P, H, ops, ⟨dst, op, ty, pos, after, some (j, b)⟩ :: rest, Q⟩ A =
    @WN ⟨fun _ => orK P A dst (wpOps P H ops Q rest) Q (aOp P (mutOf H) ⟨dst, op, ty, pos, after, some (j, b)⟩ A.eval A.h),
        fun _ => wpOps P H ops Q rest (A.put dst (.p (.tuple [])) A.h)⟩ (guardAt A ((ops[j]?).bind (·.dst)) b) := propext Iff.rfl
theorem WN_some (X Y : Unit → Prop) (b : Bool) : @WN ⟨X, Y⟩ (some b) = @WB ⟨X, Y⟩ b := propext Iff.rfl
theorem WC_bool (X Y : Unit → Prop) (b : Bool) : @WC ⟨X, Y⟩ (.p (.bool b)) = @WB ⟨X, Y⟩ b := propext Iff.rfl
theorem WB_not (X Y : Unit → Prop) (b : Bool) : @WB ⟨X, Y⟩ (!b) = @WB ⟨Y, X⟩ b := by
  cases b
  · exact (both_true X Y).trans (both_false Y X).symm
  · exact (both_false X Y).trans (both_true Y X).symm
theorem WB_true_op (ops : Array Oper) (rest : List Oper) (d dst : Option Tmp) (op : Op) (ty : TypeId) (pos : String) (after : Array Edge) (g : Option (Nat × Bool)) (Y : Unit → Prop) :
    @WB ⟨fun _ => orK P A dst (wpOps P H ops Q rest) Q (aOp P (mutOf H) ⟨d, op, ty, pos, after, g⟩ A.eval A.h), Y⟩ true =
      @WR ⟨P, H, ops, rest, Q, dst⟩ A (aOp P (mutOf H) ⟨d, op, ty, "", #[], none⟩ A.eval A.h) := by
  rw [← aOp_pos P (mutOf H) d op ty pos after g]
  exact both_true _ _
theorem WB_false_op (X : Unit → Prop) (ops : Array Oper) (l : List Oper) (B : AAct) : @WB ⟨X, fun _ => wpOps P H ops Q l B⟩ false = @WO ⟨P, H, ops, l, Q⟩ B := both_false _ _
theorem WB_true_wp (c : Code) (Y : Unit → Prop) : @WB ⟨fun _ => wp P H c Q A, Y⟩ true = @W ⟨P, H, c, Q⟩ A := both_true _ _
theorem WB_false_wp (c : Code) (X : Unit → Prop) : @WB ⟨X, fun _ => wp P H c Q A⟩ false = @W ⟨P, H, c, Q⟩ A := both_false _ _
theorem WR_val (ops : Array Oper) (rest : List Oper) (dst : Option Tmp) (v : AV) (h : Heap) : @WR ⟨P, H, ops, rest, Q, dst⟩ A (.val v h) = @WO ⟨P, H, ops, rest, Q⟩ (A.put dst v h) := propext Iff.rfl
theorem WR_skip (ops : Array Oper) (rest : List Oper) (dst : Option Tmp) (h : Heap) : @WR ⟨P, H, ops, rest, Q, dst⟩ A (.skip h) = @WO ⟨P, H, ops, rest, Q⟩ (A.put dst (.p (.tuple [])) h) := propext Iff.rfl
theorem WR_call (k : OpK) (f : FuncId) (args : List AV) : @WR ⟨k⟩ A (.call f args) = @WF ⟨k⟩ A f args := propext Iff.rfl
theorem WR_panic (ops : Array Oper) (rest : List Oper) (dst : Option Tmp) (v : PV) : @WR ⟨P, H, ops, rest, Q, dst⟩ A (.panic v) = @WQ ⟨Q⟩ (.panic v) A := propext Iff.rfl
theorem WQ_end_ret (rs : List ResultVar) (n : Nat) (R : Rc → AEnd → Heap → Prop) : @WQ ⟨endQ P rs n R⟩ .ret A = (A.bs = n ∧ aLeave P rs (R A.rc) A.tmps A.df .ret A.h) := propext Iff.rfl
theorem WQ_end_normal (rs : List ResultVar) (n : Nat) (R : Rc → AEnd → Heap → Prop) : @WQ ⟨endQ P rs n R⟩ .normal A = (A.bs = n ∧ aLeave P rs (R A.rc) A.tmps A.df .ret A.h) := propext Iff.rfl
theorem WQ_end_panic (rs : List ResultVar) (n : Nat) (R : Rc → AEnd → Heap → Prop) (v : PV) : @WQ ⟨endQ P rs n R⟩ (.panic v) A = (A.bs = n ∧ aLeave P rs (R A.rc) A.tmps A.df (.pan v) A.h) := propext Iff.rfl
def consR : AV → Option (List AV) → Option (List AV)
  | v, some l => if v.single = true then some (v :: l) else none
  | _, none => none
def consO : OR → Option (List AV) → Option (List AV)
  | .val v _, r => consR v r
  | _, _ => none
def retK (R : AEnd → Heap → Prop) (h : Heap) : Option AV → Prop
  | some v => R (.ret v) h
  | none => False
theorem leave_ret (rs : List ResultVar) (R : AEnd → Heap → Prop) (T : Nat → AV) (h : Heap) : aLeave P rs R T [] .ret h = retK R h (aResult (aRes P h T rs)) := propext Iff.rfl
theorem leave_pan (rs : List ResultVar) (R : AEnd → Heap → Prop) (T : Nat → AV) (h : Heap) (v : PV) : aLeave P rs R T [] (.pan v) h = R (.panic v) h := propext Iff.rfl
theorem retK_some (R : AEnd → Heap → Prop) (h : Heap) (v : AV) : retK R h (some v) = R (.ret v) h := propext Iff.rfl
theorem aRes_nil (h : Heap) (T : Nat → AV) : aRes P h T [] = some [] := rfl
theorem aRes_tmp (h : Heap) (T : Nat → AV) (t : Nat) (rs : List ResultVar) : aRes P h T (.tmp t :: rs) = consR (T t) (aRes P h T rs) := by
  rw [aRes.eq_2]
  cases hr : aRes P h T rs <;> rfl
theorem aRes_cell (h : Heap) (T : Nat → AV) (t : Nat) (ty : TypeId) (rs : List ResultVar) : aRes P h T (.cell t ty :: rs) = consO (aLoad P ty (T t) h) (aRes P h T rs) := by
  rw [aRes.eq_2]
  unfold aRes1
  dsimp only
  generalize aRes P h T rs = x
  cases aLoad P ty (T t) h <;> cases x <;> rfl
theorem consR_p (v : PV) (l : List AV) : consR (.p v) (some l) = some (.p v :: l) := rfl
theorem consR_ptr (i j k o : Nat) (l : List AV) : consR (.ptr i j k o) (some l) = some (.ptr i j k o :: l) := rfl
theorem consR_slice (i j k o : Nat) (l : List AV) : consR (.slice i j k o) (some l) = some (.slice i j k o :: l) := rfl
theorem consR_agg (cs : List AV) (l : List AV) : consR (.agg cs) (some l) = some (.agg cs :: l) := rfl
theorem consR_func (f : Fn) (a c : List AV) (l : List AV) : consR (.func f a c) (some l) = some (.func f a c :: l) := rfl
theorem consO_val (v : AV) (h : Heap) (r : Option (List AV)) : consO (.val v h) r = consR v r := rfl
theorem aResult_nil : aResult (some []) = some (.p (.tuple [])) := rfl
theorem aResult_one (v : AV) : aResult (some [v]) = some v := rfl
theorem aResult_two (v u : AV) (l : List AV) : aResult (some (v :: u :: l)) = some (mkTuple (v :: u :: l)) := rfl
theorem WB_split {k : (Unit → Prop) × (Unit → Prop)} {b : Bool} (h1 : b = true → @WB ⟨k⟩ true) (h2 : b = false → @WB ⟨k⟩ false) : @WB ⟨k⟩ b := by
  cases b
  · exact h2 rfl
  · exact h1 rfl
theorem WD_nil (ops : Array Oper) (hs : Heap) : @WD ⟨P, H, ops, [], Q⟩ hs A = @WQ ⟨Q⟩ .normal A := propext Iff.rfl
theorem WD_cons (ops : Array Oper) (rest : List Oper) (hs : Heap) (dst : Option Tmp) (op : Op) (ty : TypeId) (pos : String) (after : Array Edge) :
    @WD ⟨P, H, ops, ⟨dst, op, ty, pos, after, none⟩ :: rest, Q⟩ hs A = @WDC ⟨P, H, ops, rest, Q, ⟨dst, op, ty, pos, after, none⟩⟩ hs A (dcls H ⟨dst, op, ty, "", #[], none⟩) := by
  unfold WD WDC
  simp only [wpDraw, aWanted, wantK]
  exact both_true _ _
theorem WD_guard (ops : Array Oper) (rest : List Oper) (hs : Heap) (dst : Option Tmp) (op : Op) (ty : TypeId) (pos : String) (after : Array Edge) (j : Nat) (b : Bool) :
    @WD ⟨P, H, ops, ⟨dst, op, ty, pos, after, some (j, b)⟩ :: rest, Q⟩ hs A =
    @WN ⟨fun _ => @WDC ⟨P, H, ops, rest, Q, ⟨dst, op, ty, pos, after, some (j, b)⟩⟩ hs A (dcls H ⟨dst, op, ty, "", #[], none⟩),
        fun _ => @WD ⟨P, H, ops, rest, Q⟩ hs (A.put dst (.p (.tuple [])) A.h)⟩ (guardAt A ((ops[j]?).bind (·.dst)) b) := propext Iff.rfl
theorem WB_true_wdc (k : DOpK) (hs : Heap) (d : DC) (Y : Unit → Prop) : @WB ⟨fun _ => @WDC ⟨k⟩ hs A d, Y⟩ true = @WDC ⟨k⟩ hs A d := both_true _ _
theorem WB_false_wd (k : DrK) (hs : Heap) (B : AAct) (X : Unit → Prop) : @WB ⟨X, fun _ => @WD ⟨k⟩ hs B⟩ false = @WD ⟨k⟩ hs B := both_false _ _
theorem WB_true_skip (ops : Array Oper) (l : List Oper) (B : AAct) (Y : Unit → Prop) : @WB ⟨fun _ => wpOps P H ops Q l B, Y⟩ true = @WO ⟨P, H, ops, l, Q⟩ B := both_true _ _
theorem WB_false_opn (ops : Array Oper) (rest : List Oper) (d dst : Option Tmp) (op : Op) (ty : TypeId) (pos : String) (after : Array Edge) (g : Option (Nat × Bool)) (X : Unit → Prop) :
    @WB ⟨X, fun _ => orK P A dst (wpOps P H ops Q rest) Q (aOp P (mutOf H) ⟨d, op, ty, pos, after, g⟩ A.eval A.h)⟩ false =
      @WR ⟨P, H, ops, rest, Q, dst⟩ A (aOp P (mutOf H) ⟨d, op, ty, "", #[], none⟩ A.eval A.h) := by
  rw [← aOp_pos P (mutOf H) d op ty pos after g]
  exact both_false _ _
theorem WB_true_wd (k : DrK) (hs : Heap) (B : AAct) (Y : Unit → Prop) : @WB ⟨fun _ => @WD ⟨k⟩ hs B, Y⟩ true = @WD ⟨k⟩ hs B := both_true _ _
theorem WB_false_wdc (k : DOpK) (hs : Heap) (d : DC) (X : Unit → Prop) : @WB ⟨X, fun _ => @WDC ⟨k⟩ hs A d⟩ false = @WDC ⟨k⟩ hs A d := both_false _ _
section
variable (ops : Array Oper) (rest : List Oper) (hs : Heap) (dst : Option Tmp) (op : Op) (ty : TypeId) (pos : String) (after : Array Edge) (g : Option (Nat × Bool))
theorem WDC_bar : @WDC ⟨P, H, ops, rest, Q, ⟨dst, op, ty, pos, after, g⟩⟩ hs A .bar = @WDB ⟨P, H, ops, rest, Q, ⟨dst, op, ty, pos, after, g⟩⟩ A (aOp P (mutOf H) ⟨dst, op, ty, "", #[], none⟩ A.eval A.h) := by
  rw [← aOp_pos P (mutOf H) dst op ty pos after g]; exact propext Iff.rfl
theorem WDC_alloc : @WDC ⟨P, H, ops, rest, Q, ⟨dst, op, ty, pos, after, g⟩⟩ hs A .alloc = @WDA ⟨P, H, ops, rest, Q, ⟨dst, op, ty, pos, after, g⟩⟩ hs A (aOp P (mutOf H) ⟨dst, op, ty, "", #[], none⟩ A.eval A.h) := by
  rw [← aOp_pos P (mutOf H) dst op ty pos after g]; exact propext Iff.rfl
theorem WDC_app (t : Nat) : @WDC ⟨P, H, ops, rest, Q, ⟨dst, op, ty, pos, after, g⟩⟩ hs A (.app t) = @WDP ⟨P, H, ops, rest, Q, ⟨dst, op, ty, pos, after, g⟩⟩ hs A (aOp P (mutOf H) ⟨dst, op, ty, "", #[], none⟩ A.eval A.h) := by
  rw [← aOp_pos P (mutOf H) dst op ty pos after g]; exact propext Iff.rfl
theorem WDC_thr : @WDC ⟨P, H, ops, rest, Q, ⟨dst, op, ty, pos, after, g⟩⟩ hs A .thr = @WDR ⟨P, H, ops, rest, Q, ⟨dst, op, ty, pos, after, g⟩⟩ hs A (aOp P (mutOf H) ⟨dst, op, ty, "", #[], none⟩ A.eval A.h) := by
  rw [← aOp_pos P (mutOf H) dst op ty pos after g]; exact propext Iff.rfl
theorem WDC_quiet : @WDC ⟨P, H, ops, rest, Q, ⟨dst, op, ty, pos, after, g⟩⟩ hs A .quiet = @WDQ ⟨P, H, ops, rest, Q, ⟨dst, op, ty, pos, after, g⟩⟩ hs A.h A (aOp P (mutOf H) ⟨dst, op, ty, "", #[], none⟩ A.eval A.h) := by
  rw [← aOp_pos P (mutOf H) dst op ty pos after g]; exact propext Iff.rfl
theorem WDC_low : @WDC ⟨P, H, ops, rest, Q, ⟨dst, op, ty, pos, after, g⟩⟩ hs A .low = @WDQ ⟨P, H, ops, rest, Q, ⟨dst, op, ty, pos, after, g⟩⟩ hs hs A (aOp P (mutOf H) ⟨dst, op, ty, "", #[], none⟩ A.eval hs) := by
  rw [← aOp_pos P (mutOf H) dst op ty pos after g]; exact propext Iff.rfl
theorem WDC_slot (j sz : Nat) : @WDC ⟨P, H, ops, rest, Q, ⟨dst, op, ty, pos, after, g⟩⟩ hs A (.slot j sz) = @WDS ⟨P, H, ops, rest, Q, ⟨dst, op, ty, pos, after, g⟩⟩ hs A j sz (slotVal P A.eval op) := propext Iff.rfl
theorem WDC_sto (T : TypeId) (a x : Operand) : @WDC ⟨P, H, ops, rest, Q, ⟨dst, .store T a x, ty, pos, after, g⟩⟩ hs A .sto = @WDK ⟨P, H, ops, rest, Q, ⟨dst, .store T a x, ty, pos, after, g⟩⟩ hs A T (A.eval a) (A.eval x) := propext Iff.rfl
theorem WDC_nop (T : TypeId) (a x : Operand) : @WDC ⟨P, H, ops, rest, Q, ⟨dst, .store T a x, ty, pos, after, g⟩⟩ hs A .nop = (aStore P T (A.eval a) (A.eval x) A.h = .skip A.h ∧ @WD ⟨P, H, ops, rest, Q⟩ hs (A.put dst (.p (.tuple [])) A.h)) := propext Iff.rfl
theorem WDK_ptr (T : TypeId) (y : AV) (id ver i k : Nat) : @WDK ⟨P, H, ops, rest, Q, ⟨dst, op, ty, pos, after, g⟩⟩ hs A T (.ptr id ver i k) y =
    (deadAt hs id = true ∧ @WDT ⟨P, H, ops, rest, Q, ⟨dst, op, ty, pos, after, g⟩⟩ hs A (aStore P T (.ptr id ver i k) y A.h)) := propext Iff.rfl
theorem WDT_skip (h : Heap) : @WDT ⟨P, H, ops, rest, Q, ⟨dst, op, ty, pos, after, g⟩⟩ hs A (.skip h) = @WD ⟨P, H, ops, rest, Q⟩ hs (A.put dst (.p (.tuple [])) h) := propext Iff.rfl
theorem WDS_some (j sz : Nat) (z : AV) : @WDS ⟨P, H, ops, rest, Q, ⟨dst, op, ty, pos, after, g⟩⟩ hs A j sz (some z) =
    (z.cells.map (·.length) = some sz ∧ deadAt hs (hs.length - 1 - j) = true ∧ A.h[hs.length - 1 - j]? = some (.row sz []) ∧ @WD ⟨P, H, ops, rest, Q⟩ hs (A.put dst (.ptr (hs.length - 1 - j) 1 0 0) (A.h.set (hs.length - 1 - j) (.row sz [z])))) := propext Iff.rfl
theorem WDB_val (v : AV) (h : Heap) : @WDB ⟨P, H, ops, rest, Q, ⟨dst, op, ty, pos, after, g⟩⟩ A (.val v h) = @WD ⟨P, H, ops, rest, Q⟩ (A.put dst v h).h (A.put dst v h) := propext Iff.rfl
theorem WDB_skip (h : Heap) : @WDB ⟨P, H, ops, rest, Q, ⟨dst, op, ty, pos, after, g⟩⟩ A (.skip h) = @WD ⟨P, H, ops, rest, Q⟩ (A.put dst (.p (.tuple [])) h).h (A.put dst (.p (.tuple [])) h) := propext Iff.rfl
theorem WDB_panic (v : PV) : @WDB ⟨P, H, ops, rest, Q, ⟨dst, op, ty, pos, after, g⟩⟩ A (.panic v) = @WQ ⟨Q⟩ (.panic v) A := propext Iff.rfl
theorem WDA_val (v : AV) (h : Heap) : @WDA ⟨P, H, ops, rest, Q, ⟨dst, op, ty, pos, after, g⟩⟩ hs A (.val v h) = ((∃ t, h = A.h ++ t) ∧ @WD ⟨P, H, ops, rest, Q⟩ hs (A.put dst v h)) := propext Iff.rfl
theorem WDP_val (v : AV) (h : Heap) : @WDP ⟨P, H, ops, rest, Q, ⟨dst, op, ty, pos, after, g⟩⟩ hs A (.val v h) = (appOk hs A.h h ∧ @WD ⟨P, H, ops, rest, Q⟩ hs (A.put dst v h)) := propext Iff.rfl
theorem WDQ_val (v : AV) (h0 : Heap) : @WDQ ⟨P, H, ops, rest, Q, ⟨dst, op, ty, pos, after, g⟩⟩ hs h0 A (.val v h0) = @WD ⟨P, H, ops, rest, Q⟩ hs (A.put dst v A.h) :=
  propext ⟨fun h => h.2, fun h => ⟨rfl, h⟩⟩
end
end
variable {P : Program}
def PArgs (M : Nat → Prop) (w : World) (cargs : Array Value) (pargs : List PV) : Prop := cargs.size = pargs.length ∧ ∀ (i : Nat) (c : PV), pargs[i]? = some c → RepP M w (cargs.getD i undef) c
def PCall (P : Program) (f : FuncId) (pargs : List PV) (v : PV) : Prop :=
  ∀ (M0 : Nat → Prop) (w : World) (cargs : Array Value), (∀ b, M0 b → b < w.heap.size) → GOk P w → PArgs M0 w cargs pargs →
    (∀ w', (callFunc f cargs).run P w' = .ok (.enter f cargs) w') ∧
    Calls P f cargs w fun e w' => ∃ v', e = .returned v' ∧ RepP M0 w' v' v ∧ Fr [] w w'
theorem hok_nil {M0 : Nat → Prop} {w : World} (h : ∀ b, M0 b → b < w.heap.size) (hg : GOk P w) : HOk P M0 ⟨[], [], w⟩ where
  gl := ⟨hg, fun b _ hb => by simp [Own] at hb⟩
  len := rfl
  lt := fun b hb => by simp [Own] at hb
  m0 := fun b hb => ⟨h b hb, by simp [Own]⟩
  inj := fun i j b hi => by simp at hi
  obj := fun id o ho => by simp at ho
theorem pcall_of_wp (hD : DrawLaw P) {H : Hints} {f : FuncId} {fn : Func} {c : Code} {pargs : List PV} {v : PV} {rs : List ResultVar} {n : Nat} (hf : P.funcs[f]? = some fn) (hb : fn.body = some c) (hrs : fn.results.toList = rs) (hn : fn.ntmps = n) (hok : fnOk H fn = true)
    (hlen : pargs.length ≤ n) (hw : wp P H c (endQ P rs 0 (fun _ r _ => r = .ret (.p v))) (start n .no (pargs.map .p) [])) : PCall P f pargs v := by
  intro M0 w cargs hM hg ha
  have ha' : RepL (Rep M0 ⟨[], [], w⟩) cargs (pargs.map .p) := by
    refine ⟨by simpa using ha.1, fun i c hc => ?_⟩
    simp only [List.getElem?_map, Option.map_eq_some_iff] at hc
    obtain ⟨q, hq, rfl⟩ := hc
    exact rep0_of_pv ((ha.2 i q hq).mono (fun _ _ _ => rfl) (fun b hb => by
      rcases hb with hb | hb
      · exact .inl hb
      · simp [Own] at hb))
  have := hcall_of_wp hD (h := []) (R := fun r _ => r = .ret (.p v)) hf hb hrs hn hok (by simpa using hlen) hw M0 [] w cargs (hok_nil hM hg) ha'
  refine ⟨this.1, this.2.mono fun e w' h => ?_⟩
  obtain ⟨r, h', m', rfl, hev, hk, hend⟩ := h
  cases e with
  | returned v' => exact ⟨v', rfl, RepP.less (show RepP (Avoid M0 m') w' v' v from hend) (fun b hb => .inl hb), hev.fr⟩
  | panicked ch => exact hend.elim
  | outgrown => exact hend.elim
theorem fr_nil_ok {M0 : Nat → Prop} {S : Mem} (hS : HOk P M0 S) {w' : World} (h : Fr [] S.w w') : HOk P M0 ⟨S.m, S.h, w'⟩ ∧ Ev S.h.length S ⟨S.m, S.h, w'⟩ := by
  have hall : ∀ b, b < S.w.heap.size → w'.heap[b]? = S.w.heap[b]? := fun b hb => h.block b hb (by simp [Own])
  have hev : Ev S.h.length S ⟨S.m, S.h, w'⟩ :=
    { fr := ⟨h.os, h.tape, h.output, h.size, fun b hb _ => hall b hb, h.shape⟩
      sub := fun b hb => .inl hb
      obj := fun id o _ ho => ⟨o, ho, ObjEv.refl _ _⟩ }
  exact ⟨
    { len := hS.len
      lt := fun b hb => Nat.lt_of_lt_of_le (hS.lt b hb) h.size
      m0 := fun b hb => ⟨Nat.lt_of_lt_of_le (hS.m0 b hb).1 h.size, (hS.m0 b hb).2⟩
      inj := hS.inj
      gl := hev.glob hS.gl
      obj := fun id o ho => (hS.obj id o ho).keep hev fun b hb => hall b (hS.lt b (List.mem_of_getElem? (getD_some_get hb))) }, hev⟩
theorem hcall_pure {f : FuncId} {pargs : List PV} {v : PV} {h : Heap} (hc : PCall P f pargs v) : HCall P f (pargs.map .p) h (fun r h' => r = .ret (.p v) ∧ h' = h) := by
  intro M0 m w cargs hS ha
  have hM : ∀ b, Avoid M0 m b → b < w.heap.size := fun b hb => by
    rcases hb with hb | hb
    · exact (hS.m0 b hb).1
    · exact hS.lt b hb
  have hargs : PArgs (Avoid M0 m) w cargs pargs := by
    refine ⟨by simpa using ha.1, fun i c hi => ?_⟩
    have := ha.2 i (.p c) (by simp [hi])
    exact this
  obtain ⟨h1, h2⟩ := hc (Avoid M0 m) w cargs hM hS.gl.1 hargs
  refine ⟨h1, h2.mono fun e w' h => ?_⟩
  obtain ⟨v', rfl, hv, hfr⟩ := h
  obtain ⟨hk, hev⟩ := fr_nil_ok hS hfr
  exact ⟨.ret (.p v), _, m, ⟨rfl, rfl⟩, hev, hk, hv⟩
theorem HCall.mono {f : FuncId} {args : List AV} {h : Heap} {R R' : AEnd → Heap → Prop} (hc : HCall P f args h R) (hr : ∀ r h', R r h' → R' r h') : HCall P f args h R' :=
  fun M0 m w cargs hS ha => let ⟨h1, h2⟩ := hc M0 m w cargs hS ha
    ⟨h1, h2.mono fun _ _ hb => let ⟨r, h', m', hR, rest⟩ := hb; ⟨r, h', m', hr r h' hR, rest⟩⟩
theorem WF_pure {P : Program} {H : Hints} {ops : Array Oper} {rest : List Oper} {Q : Cont} {dst : Option Tmp} {A : AAct} {f : FuncId} {args : List AV} {pargs : List PV} {v : PV} (hc : PCall P f pargs v) (ha : args = pargs.map .p)
    (h : @WO ⟨P, H, ops, rest, Q⟩ (A.put dst (.p v) A.h)) : @WF ⟨P, H, ops, rest, Q, dst⟩ A f args := by
  subst ha
  refine (hcall_pure (h := A.h) hc).mono fun r h' hr => ?_
  obtain ⟨rfl, rfl⟩ := hr
  exact h
theorem WDQ_pure {P : Program} {H : Hints} {ops : Array Oper} {rest : List Oper} {Q : Cont} {o : Oper} {hs h0 : Heap} {A : AAct} {f : FuncId} {args : List AV} {pargs : List PV} {v : PV} (hc : PCall P f pargs v) (ha : args = pargs.map .p)
    (h : @WD ⟨P, H, ops, rest, Q⟩ hs (A.put o.dst (.p v) A.h)) : @WDQ ⟨P, H, ops, rest, Q, o⟩ hs h0 A (.call f args) := by
  subst ha
  exact ⟨.p v, fun _ _ => hcall_pure hc, h⟩
end Abs
end Go.Proofs.YtbojkcmohgbpaaaGreatDoor
