/-
  DEFINITIONS: what stands for an activation; what is known of calls; what a code comes to from an abstract state. No conditions.
  LAWS: one operation of a region, in the abstract machine and in the model's.
  LAWS: a code, in the abstract machine and in the model's. What is known of regions of any order is handed in.
  LAWS: places that are kept for variables; a variable laid into one.
-/
import Derived.Test.YtdellinghbppgaaGreatDoorAbsOpsF
import Derived.AtR
import Derived.Recover
namespace Go.Proofs.YtdellinghbppgaaGreatDoor
namespace Abs

/-! ### how calls end -/
def EndRep (M0 : Nat → Prop) (S : Mem) : Ending → AEnd → Prop
  | .returned v', .ret v => Rep M0 S v' v
  | .panicked ch, .panic v => ∃ v', ch = [{ v := v', recovered := false }] ∧ RepP (Avoid M0 S.m) S.w v' v
  | _, _ => False

/-- the state behind a call -/
def Behind (P : Program) (M0 : Nat → Prop) (S : Mem) (R : AEnd → Heap → Prop) (e : Ending) (w' : World) : Prop :=
  ∃ (r : AEnd) (h' : Heap) (m' : List (Option Nat)), R r h' ∧ Ev S.h.length S ⟨m', h', w'⟩ ∧ HOk P M0 ⟨m', h', w'⟩ ∧ EndRep M0 ⟨m', h', w'⟩ e r

/-- WHAT IS KNOWN OF A CALL, from a heap of the caller's -/
def HCall (P : Program) (f : FuncId) (args : List AV) (h : Heap) (R : AEnd → Heap → Prop) : Prop :=
  ∀ (M0 : Nat → Prop) (m : List (Option Nat)) (w : World) (cargs : Array Value), HOk P M0 ⟨m, h, w⟩ → RepL (Rep M0 ⟨m, h, w⟩) cargs args →
    (∀ w', (callFunc f cargs).run P w' = .ok (.enter f cargs) w') ∧ Calls P f cargs w (Behind P M0 ⟨m, h, w⟩ R)

/-- a round of a loop over a function -/
def HYld (P : Program) (l : Nat) (args : List AV) (h : Heap) (R : AEnd → Heap → Prop) : Prop :=
  (∃ o, h[l]? = some o ∧ o.tag = some .yl) ∧
  ∀ (M0 : Nat → Prop) (m : List (Option Nat)) (w : World) (cargs : Array Value) (b : Nat), HOk P M0 ⟨m, h, w⟩ → RepL (Rep M0 ⟨m, h, w⟩) cargs args → m.getD l none = some b →
    ∃ (f : FuncId) (tmps : Array Value) (assign body : Code), (Instr.yield b cargs).run P w = .ok (.round b f tmps assign body) w ∧
      ∀ (c : Frame) (cs : List Frame), ∃ e w', Behind P M0 ⟨m, h, w⟩ R e w' ∧
        match e with
        | .returned v => Steps P (lone (Frame.round b f tmps assign body .normal) (c :: cs) w) (lone (c.finish v) cs w')
        | .panicked ch => Steps P (lone (Frame.round b f tmps assign body .normal) (c :: cs) w) (lone (c.raise ch) cs w')
        | .outgrown => False

/-- how an activation is left -/
inductive AMode where
  | ret
  | pan (v : PV)
  | recd (v : PV)
def aSettle : AMode → AMode
  | .recd _ => .ret
  | u => u
def ModeRep (M0 : Nat → Prop) (S : Mem) (um : FrameMode) : AMode → Prop
  | .ret => um = .returning
  | .pan v => ∃ v', um = .panicking [{ v := v', recovered := false }] ∧ RepP (Avoid M0 S.m) S.w v' v
  | .recd _ => ∃ v', um = .panicking [{ v := v', recovered := true }]

/-- a deferred call -/
def DCall (P : Program) (f : FuncId) (args : List AV) (u : AMode) (h : Heap) (R : AEnd → AMode → Heap → Prop) : Prop :=
  ∀ (M0 : Nat → Prop) (m : List (Option Nat)) (w : World) (cargs : Array Value) (um : FrameMode), HOk P M0 ⟨m, h, w⟩ → RepL (Rep M0 ⟨m, h, w⟩) cargs args → ModeRep M0 ⟨m, h, w⟩ um u →
    (∀ w', (callFunc f cargs).run P w' = .ok (.enter f cargs) w') ∧
    CallsD P f cargs um w fun e um' w' => ∃ (r : AEnd) (u' : AMode) (h' : Heap) (m' : List (Option Nat)), R r u' h' ∧ Ev h.length ⟨m, h, w⟩ ⟨m', h', w'⟩ ∧ HOk P M0 ⟨m', h', w'⟩ ∧
      EndRep M0 ⟨m', h', w'⟩ e r ∧ ModeRep M0 ⟨m', h', w'⟩ um' u'

/-! ### what stands for an activation -/
def DefRep (P : Program) (M0 : Nat → Prop) (S : Mem) (d : Deferred) : ADef → Prop
  | .fn g args => ∃ (fv : Fn) (cap dargs cargs : Array Value), d = { target := .fn fv cap, args := dargs } ∧
      (∀ w, (invoke (.fn fv cap) dargs).run P w = (callFunc g cargs).run P w) ∧ RepL (Rep M0 S) cargs args
  | .collected id => ∃ b, d = { target := .collected b, args := #[] } ∧ (S.h[id]? = some .dead ∨ (S.h[id]? = some .dblock ∧ S.m.getD id none = some b))
def DefsRep (P : Program) (M0 : Nat → Prop) (S : Mem) : List Deferred → List ADef → Prop
  | [], [] => True
  | d :: ds, x :: xs => DefRep P M0 S d x ∧ DefsRep P M0 S ds xs
  | _, _ => False

def RcRep (M0 : Nat → Prop) (S : Mem) (b : Frame) (cs0 : List Frame) : Rc → Prop
  | .no => b.roundOf = none
  | .rnd => b.roundOf.isSome = true ∧ b.kind = .normal
  | .none => b.roundOf = none ∧ b.kind = .deferred ∧ recoverD cs0 = none
  | .pend v => b.roundOf = none ∧ b.kind = .deferred ∧ ∃ v' cs1, recoverD cs0 = some (v', cs1) ∧ RepP (Avoid M0 S.m) S.w v' v
  | .got _ => b.roundOf = none ∧ b.kind = .deferred ∧ ∃ v' cs1, recoverD cs0 = some (v', cs1)
/-- the frames below, once a panic has been taken up -/
def csAt : Rc → List Frame → List Frame
  | .got _, cs => match recoverD cs with | some (_, c) => c | none => cs
  | _, cs => cs

structure Rel (P : Program) (M0 : Nat → Prop) (S0 : Mem) (b : Frame) (cs0 : List Frame) (m : List (Option Nat)) (A : AAct) (a : Act) (w : World) : Prop where
  size : a.tmps.size = A.n
  tmps : ∀ t, Rep M0 ⟨m, A.h, w⟩ (a.tmps.getD t undef) (A.tmps t)
  hok : HOk P M0 ⟨m, A.h, w⟩
  ev : Ev A.bs S0 ⟨m, A.h, w⟩
  le : A.bs ≤ A.h.length ∧ ∃ f, P.funcs[b.fn]? = some f
  df : DefsRep P M0 ⟨m, A.h, w⟩ a.defers A.df
  rc : RcRep M0 ⟨m, A.h, w⟩ b cs0 A.rc

/-- a state that says less -/
def Weak (P : Program) (A B : AAct) : Prop :=
  B.n = A.n ∧ B.rc = A.rc ∧ ∀ M0 S0 b cs0 m a w, Rel P M0 S0 b cs0 m A a w → ∃ m', Rel P M0 S0 b cs0 m' B a w

/-! ### what a code comes to -/
def endK (K : AV → Heap → Prop) (Q : PV → Heap → Prop) : AEnd → Heap → Prop
  | .ret v, h => K v h
  | .panic v, h => Q v h
def dfrK (K : Prop) : Rc → Prop
  | .rnd => False
  | _ => K
def recK (A : AAct) (K : AAct → PV → Prop) : Rc → Prop
  | .none => K A .niliface
  | .pend v => K { A with rc := .got v } v
  | .got _ => K A .niliface
  | _ => False
/-- what an operation has done, handed on -/
def orK (P : Program) (A : AAct) (dst : Option Tmp) (K : AAct → Prop) (Q : Ex → AAct → Prop) : OR → Prop
  | .val v h => K (A.put dst v h)
  | .skip h => K (A.put dst (.p (.tuple [])) h)
  | .call f args => HCall P f args A.h (endK (fun v h => K (A.put dst v h)) (fun v h => Q (.panic v) { A with h := h }))
  | .yld l args => HYld P l args A.h (endK (fun v h => K (A.put dst v h)) (fun v h => Q (.panic v) { A with h := h }))
  | .dfr d => dfrK (K ({ A with df := d :: A.df }.put dst (.p (.tuple [])) A.h)) A.rc
  | .recover => recK A (fun B v => K (B.put dst (.p v) A.h)) A.rc
  | .panic v => Q (.panic v) A
  | .stuck => False
def wantK (X Y : Unit → Prop) : Option Bool → Prop
  | some b => Both b X Y
  | none => False
def condK (X Y : Unit → Prop) : AV → Prop
  | .p (.bool b) => Both b X Y
  | _ => False
def seqK (K : AAct → Prop) (Q : Ex → AAct → Prop) : Ex → AAct → Prop
  | .normal, A => K A
  | .exit j, A => Q (.exit j) A
  | .ret, A => Q .ret A
  | .panic v, A => Q (.panic v) A
def blockK (id : Nat) (Q : Ex → AAct → Prop) : Ex → AAct → Prop
  | .exit j, A => if j = id then Q .normal A else Q (.exit j) A
  | .normal, A => Q .normal A
  | .ret, A => Q .ret A
  | .panic v, A => Q (.panic v) A

/-- what is said ahead of an operation, by the temporary that it fills: nothing · a literal whose elements are written later · in a region of any order: it is run on the region's first heap, or behind and ahead of all others -/
inductive Hint where
  | std | mut | low | bar
  /-- a variable of its own, laid into a place that is kept for it: so many from the end, so many cells -/
  | slot (j sz : Nat)
  /-- of a store through a temporary t of a temporary x (1000000 + 1000 t + x): what it writes is hidden from the low ones -/
  | sto
  /-- of a store: it writes what is there -/
  | nop
  /-- of an append: it goes on behind the slice that this temporary holds ahead of the region; its row is hidden from the low ones -/
  | app (t : Nat)
  /-- of a call: it comes back, or ends in a panic, and leaves memory as it is -/
  | thr
  deriving DecidableEq
def Hint.isMut : Hint → Bool
  | .mut => true
  | _ => false
abbrev Hints := Nat → Hint
def mutOf (H : Hints) : Nat → Bool := fun d => (H d).isMut

def wpOps (P : Program) (H : Hints) (ops : Array Oper) (Q : Ex → AAct → Prop) : List Oper → AAct → Prop
  | [], A => Q .normal A
  | o :: rest, A =>
      wantK (fun _ => orK P A o.dst (wpOps P H ops Q rest) Q (aOp P (mutOf H) o A.eval A.h))
        (fun _ => wpOps P H ops Q rest (A.put o.dst (.p (.tuple [])) A.h)) (aWanted ops A o)

/-! regions of any order -/
def AObj.isDead : AObj → Bool
  | .dead => true
  | _ => false
/-- what is seen of a heap is so in the other one -/
def SubH (h h' : Heap) : Prop := ∀ (id : Nat) (o : AObj), h[id]? = some o → o.isDead = false → h'[id]? = some o
inductive DC where
  | bar | alloc | quiet | low
  | slot (j sz : Nat)
  | sto
  | nop
  | app (t : Nat)
  | thr
  deriving DecidableEq
def isAllocOp : Op → Bool
  | .alloc _ => true
  | .box _ _ => true
  | .makeSlice _ _ _ => true
  | .makeMap _ none => true
  | _ => false
def isSlotOp : Op → Bool
  | .alloc _ => true
  | .box _ _ => true
  | _ => false
/-- these leave the heap as it is, or are calls -/
def isQuietOp : Op → Bool
  | .move _ | .assign _ | .pick _ _ _ | .build _ _ | .buildSlice _ _ _ | .load _ _ | .nilCheck _ | .binOp _ _ _ _ _ | .unOp _ _ _ | .convert _ _ _ | .makeInterface _ _ | .makeFunc _ _ _
  | .slice _ _ _ _ _ | .fieldAddr _ _ _ | .field _ _ _ | .indexAddr _ _ _ | .index _ _ _ | .extract _ _ | .lookup _ _ _ _ | .typeAssert _ _ _ _ => true
  | .call c =>
    match c.callee with
    | .value _ => true
    | .builtin .len => true
    | .builtin .min => true
    | .builtin .max => true
    | _ => false
  | _ => false
def isAppendOp : Op → Bool
  | .call c => match c.callee with | .builtin .append => true | _ => false
  | _ => false
def valNo : Operand → Nat
  | .tmp x => x
  | _ => 999
/-- a store's class, by the temporary through which it goes, and the one that it writes -/
def stoDC (H : Hints) : Op → DC
  | .store _ (.tmp t) y => match H (1000000 + 1000 * t + valNo y) with | .sto => .sto | .nop => .nop | _ => .bar
  | _ => .bar
def dcls (H : Hints) (o : Oper) : DC :=
  match o.dst with
  | none => stoDC H o.op
  | some d =>
    match H d with
    | .std => if isAllocOp o.op = true then .alloc else if isQuietOp o.op = true then .quiet else .bar
    | .mut => .alloc
    | .low => if isQuietOp o.op = true then .low else .bar
    | .slot j sz => if isSlotOp o.op = true then .slot j sz else .bar
    | .app t => if isAppendOp o.op = true then .app t else .bar
    | .thr => if isQuietOp o.op = true then .thr else .bar
    | _ => .bar
def quK (P : Program) (h : Heap) (K : AV → Prop) : OR → Prop
  | .val v h' => h' = h ∧ K v
  | .call f args => ∃ v, (∀ h', SubH h h' → HCall P f args h' (fun r h'' => r = .ret v ∧ h'' = h')) ∧ K v
  | _ => False
def allK (h : Heap) (K : AV → Heap → Prop) : OR → Prop
  | .val v h' => (∃ t, h' = h ++ t) ∧ K v h'
  | _ => False
/-- what a new variable holds at first -/
def slotVal (P : Program) (e : Operand → AV) : Op → Option AV
  | .alloc T => (zeroT P T).map .p
  | .box _ x => some (e x)
  | _ => none
def deadAt (hs : Heap) (id : Nat) : Bool :=
  match hs[id]? with
  | some .dead => true
  | none => true
  | _ => false
def slotK (hs h : Heap) (j sz : Nat) (K : AV → Heap → Prop) : Option AV → Prop
  | some z => z.cells.map (·.length) = some sz ∧ deadAt hs (hs.length - 1 - j) = true ∧ h[hs.length - 1 - j]? = some (.row sz []) ∧ K (.ptr (hs.length - 1 - j) 1 0 0) (h.set (hs.length - 1 - j) (.row sz [z]))
  | none => False
def skipK (K : Heap → Prop) : OR → Prop
  | .skip h => K h
  | _ => False
def stoK (P : Program) (hs h : Heap) (e : Operand → AV) (K : Heap → Prop) : Op → Prop
  | .store T a x => match e a with
    | .ptr id ver i o => deadAt hs id = true ∧ skipK K (aStore P T (.ptr id ver i o) (e x) h)
    | _ => False
  | _ => False
/-- a store that writes what is there -/
def nopK (P : Program) (h : Heap) (e : Operand → AV) (K : Prop) : Op → Prop
  | .store T a x => aStore P T (e a) (e x) h = .skip h ∧ K
  | _ => False
/-- a new row, or one that is hidden -/
def appOk (hs h h' : Heap) : Prop := (∃ t, h' = h ++ t) ∨ ∃ id ob, h' = h.set id ob ∧ deadAt hs id = true
def appK (hs h : Heap) (K : AV → Heap → Prop) : OR → Prop
  | .val v h' => appOk hs h h' ∧ K v h'
  | _ => False
/-- a call that comes back, or panics whatever the temporaries hold, and leaves memory as it is -/
def thrK (P : Program) (Q : Ex → AAct → Prop) (A : AAct) (K : AV → Prop) : OR → Prop
  | .call f args => (∃ v, (∀ h', SubH A.h h' → HCall P f args h' (fun r h'' => r = .ret v ∧ h'' = h')) ∧ K v) ∨
      ∃ v, HCall P f args A.h (fun r h'' => r = .panic v ∧ h'' = A.h) ∧ ∀ T, Q (.panic v) { A with tmps := T }
  | _ => False
def dcK (X Y Z W : Unit → Prop) (U : Nat → Nat → Prop) (V N E R : Unit → Prop) : DC → Prop
  | .bar => X ()
  | .alloc => Y ()
  | .quiet => Z ()
  | .low => W ()
  | .slot j sz => U j sz
  | .sto => V ()
  | .nop => N ()
  | .app _ => E ()
  | .thr => R ()
def wpDraw (P : Program) (H : Hints) (ops : Array Oper) (Q : Ex → AAct → Prop) : List Oper → Heap → AAct → Prop
  | [], _, A => Q .normal A
  | o :: rest, hs, A =>
      wantK (fun _ => dcK
          (fun _ => orK P A o.dst (fun B => wpDraw P H ops Q rest B.h B) Q (aOp P (mutOf H) o A.eval A.h))
          (fun _ => allK A.h (fun v h => wpDraw P H ops Q rest hs (A.put o.dst v h)) (aOp P (mutOf H) o A.eval A.h))
          (fun _ => quK P A.h (fun v => wpDraw P H ops Q rest hs (A.put o.dst v A.h)) (aOp P (mutOf H) o A.eval A.h))
          (fun _ => quK P hs (fun v => wpDraw P H ops Q rest hs (A.put o.dst v A.h)) (aOp P (mutOf H) o A.eval hs))
          (fun j sz => slotK hs A.h j sz (fun v h => wpDraw P H ops Q rest hs (A.put o.dst v h)) (slotVal P A.eval o.op))
          (fun _ => stoK P hs A.h A.eval (fun h => wpDraw P H ops Q rest hs (A.put o.dst (.p (.tuple [])) h)) o.op)
          (fun _ => nopK P A.h A.eval (wpDraw P H ops Q rest hs (A.put o.dst (.p (.tuple [])) A.h)) o.op)
          (fun _ => appK hs A.h (fun v h => wpDraw P H ops Q rest hs (A.put o.dst v h)) (aOp P (mutOf H) o A.eval A.h))
          (fun _ => thrK P Q A (fun v => wpDraw P H ops Q rest hs (A.put o.dst v A.h)) (aOp P (mutOf H) o A.eval A.h))
          (dcls H o))
        (fun _ => wpDraw P H ops Q rest hs (A.put o.dst (.p (.tuple [])) A.h)) (aWanted ops A o)
/-- the places that are kept for a region's variables -/
def resvs (H : Hints) : List Oper → List Nat
  | [] => []
  | o :: l => match dcls H o with | .slot _ sz => sz :: resvs H l | _ => resvs H l
/-- what a region's hidden stores write -/
def stoIds (H : Hints) (T : Nat → AV) : List Oper → List Nat
  | [] => []
  | o :: l => match dcls H o, o.op with
    | .sto, .store _ (.tmp t) _ => (match T t with | .ptr id _ _ _ => id :: stoIds H T l | _ => stoIds H T l)
    | .app t, _ => (match T t with | .slice id _ _ _ => id :: stoIds H T l | _ => stoIds H T l)
    | _, _ => stoIds H T l
def maskL (h : Heap) : List Nat → Heap
  | [] => h
  | id :: l => maskL (h.set id .dead) l
def drawHs (H : Hints) (ops : List Oper) (A : AAct) : Heap := maskL A.h (stoIds H A.tmps ops) ++ (resvs H ops).map fun _ => .dead
def drawA (H : Hints) (ops : List Oper) (A : AAct) : AAct := { A with h := A.h ++ (resvs H ops).map fun sz => .row sz [] }

/-! loops over functions -/
def jumpK (Q : Ex → AAct → Prop) (A : AAct) : Option Code → Prop
  | none => Q .normal A
  | some .ret => Q .ret A
  | some (.exit id) => Q (.exit id) A
  | _ => False
def loopEnd (Q : Ex → AAct → Prop) (A : AAct) (l : Nat) : Option AObj → Prop
  | some (.loop _ _ _ _ _ st pend) => st ≠ .busy ∧ jumpK Q { A with h := A.h.set l .dead } pend
  | _ => False
def rangeK (P : Program) (A : AAct) (h : Heap) (l : Nat) (Q : Ex → AAct → Prop) : OR → Prop
  | .call g args => HCall P g args h (endK (fun _ h' => loopEnd Q { A with h := h', df := .collected l :: A.df } (l + 1) h'[l + 1]?)
      (fun v h' => Q (.panic v) { A with h := h', df := .collected l :: A.df }))
  | _ => False

def wp (P : Program) (H : Hints) : Code → (Ex → AAct → Prop) → AAct → Prop
  | .skip, Q, A => Q .normal A
  | .region _ ops false, Q, A => wpOps P H ops Q ops.toList A
  | .region _ ops true, Q, A => wpDraw P H ops Q ops.toList (drawHs H ops.toList A) (drawA H ops.toList A)
  | .seq a b, Q, A => wp P H a (seqK (wp P H b Q) Q) A
  | .cond c x y, Q, A => condK (fun _ => wp P H x Q A) (fun _ => wp P H y Q A) (A.eval c)
  | .block id b, Q, A => wp P H b (blockK id Q) A
  | .loop b, Q, A => ∀ X : AAct → Prop, (∀ B, wp P H b (seqK (fun C => ∃ D, Weak P C D ∧ X D) Q) B → X B) → ∃ B, Weak P A B ∧ X B
  | .rangeFunc g ps assign body, Q, A => dfrK (rangeK P A (A.h ++ [.dblock, .loop A.n A.tmps ps assign body .ready none]) A.h.length Q (aInvoke (A.eval g) [.ref .yl (A.h.length + 1)])) A.rc
  | .exit id, Q, A => Q (.exit id) A
  | .ret, Q, A => Q .ret A
  | .scope b, Q, A => wp P H b Q A
  | .label _, Q, A => Q .normal A
  | _, _, _ => False

/-! ### what is looked at ahead -/
def dstOk (n : Nat) (o : Oper) : Bool := match o.dst with | some d => decide (d < n) | none => true
def befBit (b : Array Nat) (i j : Nat) : Bool := (b.getD j 0).testBit i
/-- classes of which the order does not matter -/
def pairDC : DC → DC → Bool
  | .alloc, .low => true
  | .quiet, .alloc | .quiet, .quiet | .quiet, .low => true
  | .low, .alloc | .low, .quiet | .low, .low | .low, .slot _ _ | .low, .sto => true
  | .slot _ _, .low | .slot _ _, .slot _ _ => true
  | .sto, .low => true
  | .app _, .low | .low, .app _ => true
  | .nop, .low | .nop, .quiet | .nop, .nop | .low, .nop | .quiet, .nop => true
  | .quiet, .thr | .low, .thr => true
  | _, _ => false
/-- these never fail -/
def isFreeOp (o : Oper) : Bool :=
  match o.guard, o.op with
  | none, .move _ => true
  | none, .assign _ => true
  | _, _ => false
def isThr : DC → Bool
  | .thr => true
  | _ => false
def isQui : DC → Bool
  | .quiet => true
  | _ => false
def pairOk (H : Hints) (ops : Array Oper) (x y : Oper) : Bool := (pairDC (dcls H x) (dcls H y) || (isThr (dcls H x) && isFreeOp y && isQui (dcls H y))) && (Oper.apart ops x y)
def drawOk (H : Hints) (ops : Array Oper) : Bool :=
  let b := Region.before ops
  let l := ops.toList.zipIdx
  l.all fun (y, j) =>
    (y.after.all fun e => !Region.binds .any e || decide (e.on < j)) &&
    (match y.guard with | some (g, _) => befBit b g j | none => true) &&
    Region.noSelect ops &&
    l.all fun (x, i) => !decide (i < j) || befBit b i j || pairOk H ops x y
def okCode (H : Hints) (n : Nat) : Code → Bool
  | .region _ ops false => ops.toList.all (dstOk n)
  | .region _ ops true => ops.toList.all (dstOk n) && drawOk H ops
  | .seq a b => okCode H n a && okCode H n b
  | .cond _ a b => okCode H n a && okCode H n b
  | .block _ b => okCode H n b
  | .loop b => okCode H n b
  | .rangeFunc _ _ a b => okCode H n a && okCode H n b
  | .scope b => okCode H n b
  | _ => true

end Abs
end Go.Proofs.YtdellinghbppgaaGreatDoor

namespace Go.Proofs.YtdellinghbppgaaGreatDoor
namespace Abs
variable {P : Program} {M0 : Nat → Prop} {S0 : Mem} {b : Frame} {cs0 : List Frame} {m : List (Option Nat)} {A : AAct} {a : Act} {w : World}

theorem undef_rep (M0 : Nat → Prop) (S : Mem) : Rep M0 S undef (.p (.tuple [])) := rep0_of_pv (.tuple rfl (by simp))

theorem Rel.eval (h : Rel P M0 S0 b cs0 m A a w) (x : Operand) : Rep M0 ⟨m, A.h, w⟩ (a.eval x) (A.eval x) := by
  cases x with
  | tmp t => exact h.tmps t
  | const v =>
    show Rep M0 _ v (match constPV v with | some x => .p x | none => .undef)
    cases hc : constPV v with
    | none => exact trivial
    | some q => exact rep0_of_pv (constPV_rep hc)
  | global g => exact trivial
  | func f => exact rep0_of_pv (.func rfl rfl (by simp) (by simp))

theorem Ev.len {base : Nat} {S S' : Mem} (e : Ev base S S') (hb : base ≤ S.h.length) : base ≤ S'.h.length := by
  rcases Nat.eq_zero_or_pos base with h | h
  · omega
  · have hlt : base - 1 < S.h.length := by omega
    obtain ⟨o', ho', _⟩ := e.obj (base - 1) _ (by omega) (List.getElem?_eq_getElem hlt)
    have := (List.getElem?_eq_some_iff.1 ho').1
    omega

theorem Ev.rc {S S' : Mem} (e : Ev S.h.length S S') {c : Rc} (h : RcRep M0 S b cs0 c) : RcRep M0 S' b cs0 c := by
  cases c with
  | pend v =>
    obtain ⟨h1, h2, v', cs1, h3, h4⟩ := h
    exact ⟨h1, h2, v', cs1, h3, e.repP h4⟩
  | _ => exact h
theorem Ev.repL {S S' : Mem} (e : Ev S.h.length S S') {C : Array Value} {l : List AV} (h : RepL (Rep M0 S) C l) : RepL (Rep M0 S') C l := h.imp fun _ _ _ hr => e.keep hr
theorem Ev.mode {S S' : Mem} (e : Ev S.h.length S S') {um : FrameMode} {u : AMode} (h : ModeRep M0 S um u) : ModeRep M0 S' um u := by
  cases u with
  | pan v =>
    obtain ⟨v', h1, h2⟩ := h
    exact ⟨v', h1, e.repP h2⟩
  | _ => exact h
theorem Ev.defRep {S S' : Mem} (e : Ev S.h.length S S') {d : Deferred} {x : ADef} (h : DefRep P M0 S d x) : DefRep P M0 S' d x := by
  cases x with
  | fn g args =>
    obtain ⟨fv, cap, dargs, cargs, h1, h2, h3⟩ := h
    exact ⟨fv, cap, dargs, cargs, h1, h2, e.repL h3⟩
  | collected id =>
    obtain ⟨bl, h1, h2⟩ := h
    refine ⟨bl, h1, ?_⟩
    rcases h2 with h2 | ⟨h2, h3⟩
    · obtain ⟨o', ho', he⟩ := e.obj id _ (List.getElem?_eq_some_iff.1 h2).1 h2
      rcases he with rfl | ⟨_, _, _, he, _⟩ | ⟨he, _⟩
      · exact .inl ho'
      · cases he
      · exact absurd rfl he
    · obtain ⟨o', ho', he⟩ := e.obj id _ (List.getElem?_eq_some_iff.1 h2).1 h2
      rcases he with rfl | ⟨_, _, _, he, _⟩ | ⟨_, he, he'⟩
      · exact .inl ho'
      · cases he
      · refine .inr ⟨?_, he'.trans h3⟩
        cases o' <;> first | exact ho' | cases he
theorem Ev.defsRep {S S' : Mem} (e : Ev S.h.length S S') : ∀ {ds : List Deferred} {xs : List ADef}, DefsRep P M0 S ds xs → DefsRep P M0 S' ds xs
  | [], [], _ => trivial
  | _ :: _, _ :: _, h => ⟨e.defRep h.1, e.defsRep h.2⟩
  | [], _ :: _, h => h.elim
  | _ :: _, [], h => h.elim

/-- memory behind the state's own -/
theorem Rel.ahead (h : Rel P M0 S0 b cs0 m A a w) {m' : List (Option Nat)} {h' : Heap} {w' : World} (e : Ev A.h.length ⟨m, A.h, w⟩ ⟨m', h', w'⟩) (hk : HOk P M0 ⟨m', h', w'⟩) :
    Rel P M0 S0 b cs0 m' { A with h := h' } a w' where
  size := h.size
  tmps := fun t => e.keep (h.tmps t)
  hok := hk
  ev := h.ev.trans (e.mono h.le.1)
  le := ⟨Nat.le_trans h.le.1 (e.len (Nat.le_refl _)), h.le.2⟩
  df := e.defsRep h.df
  rc := e.rc h.rc

/-- a temporary is filled -/
theorem Rel.put (h : Rel P M0 S0 b cs0 m A a w) {dst : Option Tmp} {v : AV} {v' : Value} (hd : ∀ d, dst = some d → d < A.n) (hv : Rep M0 ⟨m, A.h, w⟩ v' v) :
    Rel P M0 S0 b cs0 m (A.put dst v A.h) (a.put dst v') w := by
  cases dst with
  | none => exact h
  | some d =>
    have hlt := hd d rfl
    exact
      { size := by simpa [AAct.put, Act.put] using h.size
        tmps := fun t => by
          show Rep M0 ⟨m, A.h, w⟩ ((a.tmps.setIfInBounds d v').getD t undef) (if t = d then v else A.tmps t)
          by_cases htd : t = d
          · subst htd
            have : t < a.tmps.size := by rw [h.size]; exact hlt
            simpa [this] using hv
          · simp only [htd, if_false]
            have := h.tmps t
            simpa [Array.getElem?_setIfInBounds_ne (Ne.symm htd)] using this
        hok := h.hok
        ev := h.ev
        le := h.le
        df := h.df
        rc := h.rc }
theorem put_heap (A : AAct) (dst : Option Tmp) (v : AV) (h : Heap) : A.put dst v h = { A with h := h }.put dst v h := by cases dst <;> rfl
theorem put_n (A : AAct) (dst : Option Tmp) (v : AV) (h : Heap) : (A.put dst v h).n = A.n := by cases dst <;> rfl
theorem put_rc (A : AAct) (dst : Option Tmp) (v : AV) (h : Heap) : (A.put dst v h).rc = A.rc := by cases dst <;> rfl
theorem put_h (A : AAct) (dst : Option Tmp) (v : AV) (h : Heap) : (A.put dst v h).h = h := by cases dst <;> rfl
theorem put_df (A : AAct) (dst : Option Tmp) (v : AV) (h : Heap) : (A.put dst v h).df = A.df := by cases dst <;> rfl
theorem put_bs (A : AAct) (dst : Option Tmp) (v : AV) (h : Heap) : (A.put dst v h).bs = A.bs := by cases dst <;> rfl
theorem dst_lt {n : Nat} {o : Oper} (h : dstOk n o = true) : ∀ d, o.dst = some d → d < n := by
  intro d hd
  simp only [dstOk, hd] at h
  exact of_decide_eq_true h

/-- where an operation leads -/
def Steps1 (P : Program) (M0 : Nat → Prop) (S0 : Mem) (b : Frame) (cs0 : List Frame) (n : Nat) (mc : Machine) (k : List Item) (K : AAct → Prop) (Q : Ex → AAct → Prop) : Prop :=
  (∃ A' m' a' w', K A' ∧ A'.n = n ∧ Rel P M0 S0 b cs0 m' A' a' w' ∧ Steps P mc (lone (b.atR a' k) (csAt A'.rc cs0) w')) ∨
  (∃ v A' m' a' w' v' todo, Q (.panic v) A' ∧ A'.n = n ∧ Rel P M0 S0 b cs0 m' A' a' w' ∧ RepP (Avoid M0 m') w' v' v ∧
    Steps P mc (lone { b.atR a' todo with mode := .panicking [{ v := v', recovered := false }] } (csAt A'.rc cs0) w'))

theorem recoverD_recovered {cs : List Frame} {v : Value} {cs1 : List Frame} (h : recoverD cs = some (v, cs1)) : recoverD cs1 = none := by
  unfold recoverD at h
  split at h
  · split at h
    · cases h; rfl
    · cases h
  · cases h

theorem Rel.semAt (h : Rel P M0 S0 b cs0 m A a w) {o : Oper} (hn : (∀ c, o.op ≠ .defer c) ∨ A.rc ≠ .rnd) : o.semAt b.roundOf a.eval = execOp a.eval o := by
  rcases hn with hn | hn
  · exact Oper.semAt_eq _ _ _ hn
  · have : b.roundOf = none := by
      have := h.rc
      cases hr : A.rc <;> rw [hr] at this hn
      · exact this
      · exact absurd rfl hn
      · exact this.1
      · exact this.1
      · exact this.1
    rw [this]; rfl

theorem rc_kind (h : Rel P M0 S0 b cs0 m A a w) : A.rc = .no ∨ A.rc = .rnd ∨ (b.roundOf = none ∧ b.kind = .deferred) := by
  have := h.rc
  cases hr : A.rc <;> rw [hr] at this
  · exact .inl rfl
  · exact .inr (.inl rfl)
  · exact .inr (.inr ⟨this.1, this.2.1⟩)
  · exact .inr (.inr ⟨this.1, this.2.1⟩)
  · exact .inr (.inr ⟨this.1, this.2.1⟩)

theorem op_step {H : Hints} {o : Oper} {i : Nat} {rest : List Nat} {ops : Array Oper} {k : List Item} {K : AAct → Prop} {Q : Ex → AAct → Prop}
    (ho : ops[i]? = some o) (hd : dstOk A.n o = true) (hw : Region.wanted o (yielded ops a.tmps) = true) (hr : Rel P M0 S0 b cs0 m A a w)
    (h : orK P A o.dst K Q (aOp P (mutOf H) o A.eval A.h)) :
    Steps1 P M0 S0 b cs0 A.n (lone (b.atR a (.inRegion ops (i :: rest) :: k)) (csAt A.rc cs0) w) (.inRegion ops rest :: k) K Q := by
  have hok := op_ok (P := P) (mu := mutOf H) (o := o) hr.hok hr.eval
  have hfin : ∀ (a' : Act) v, (b.atR a' (.inRegion ops (i :: rest) :: k)).finish v = b.atR (a'.put o.dst v) (.inRegion ops rest :: k) := by
    intro a' v; rw [Frame.finish_atR, ho]; rfl
  have hg := stepGR_op (P := P) (b := b) (k := k) (cs := csAt A.rc cs0) (w := w) (rest := rest) ho hw
  -- a deferred call is laid down in no round
  have hdef : ∀ c, o.op = .defer c → (∃ d, aOp P (mutOf H) o A.eval A.h = .dfr d) ∨ aOp P (mutOf H) o A.eval A.h = .stuck := by
    intro c hc
    unfold aOp
    rw [hc]
    dsimp only
    split
    · unfold aDefer
      split
      · exact .inl ⟨_, rfl⟩
      · exact .inr rfl
    · exact .inr rfl
  generalize haop : aOp P (mutOf H) o A.eval A.h = r at h hok hdef
  have hnd : (∀ d, r ≠ .dfr d) → r ≠ .stuck → o.semAt b.roundOf a.eval = execOp a.eval o := by
    intro h1 h2
    refine hr.semAt (.inl fun c hc => ?_)
    rcases hdef c hc with ⟨d, hd⟩ | hs
    · exact h1 d hd
    · exact h2 hs
  cases r with
  | val v h' =>
    obtain ⟨⟨m', h1, w'⟩, v', rfl, hrun, hev, hhk, hrep⟩ := hok
    rw [hnd (by simp) (by simp)] at hg
    have hr' := (hr.ahead hev hhk).put (dst := o.dst) (dst_lt hd) hrep
    rw [← put_heap] at hr'
    refine .inl ⟨_, m', _, w', h, put_n _ _ _ _, hr', ?_⟩
    rw [put_rc, ← hfin]
    exact .one (step_lone_go (by rw [hg]; simp only at hrun; simp [stepG.apply, hrun]))
  | skip h' =>
    obtain ⟨⟨m', h1, w'⟩, rfl, hrun, hev, hhk⟩ := hok
    rw [hnd (by simp) (by simp)] at hg
    have hr' := (hr.ahead hev hhk).put (dst := o.dst) (dst_lt hd) (undef_rep _ _)
    rw [← put_heap] at hr'
    refine .inl ⟨_, m', _, w', h, put_n _ _ _ _, hr', ?_⟩
    rw [put_rc, ← hfin]
    exact .one (step_lone_go (by rw [hg]; simp [stepG.apply, hrun]))
  | call f args =>
    obtain ⟨cargs, hrun, hargs⟩ := hok
    rw [hnd (by simp) (by simp)] at hg
    obtain ⟨henter, hcall⟩ := h M0 m w cargs hr.hok hargs
    have hrun' : (execOp a.eval o).run P w = .ok (.enter f cargs) w := hrun.trans (henter w)
    obtain ⟨e, w', fr, ⟨re, h', m', hR, hev, hhk, hend⟩, hcomes, _, hleave⟩ := hcall (b.atR a (.inRegion ops (i :: rest) :: k) :: csAt A.rc cs0)
    have hstart : step P (lone (b.atR a (.inRegion ops (i :: rest) :: k)) (csAt A.rc cs0) w) =
        .next (lone (Frame.enter P f cargs .normal) (b.atR a (.inRegion ops (i :: rest) :: k) :: csAt A.rc cs0) w) :=
      step_lone_go (by rw [hg]; simp [stepG.apply, hrun', Frame.atR])
    cases e with
    | outgrown => exact hend.elim
    | returned v' =>
      cases re with
      | panic v => exact hend.elim
      | ret v =>
        have hr' := (hr.ahead hev hhk).put (dst := o.dst) (dst_lt hd) hend
        rw [← put_heap] at hr'
        refine .inl ⟨_, m', _, w', hR, put_n _ _ _ _, hr', ?_⟩
        rw [put_rc, ← hfin]
        exact .head hstart (Steps.trans hcomes (.one (step_leave_returned hleave)))
    | panicked ch =>
      cases re with
      | ret v => exact hend.elim
      | panic v =>
        obtain ⟨v', rfl, hv⟩ := hend
        refine .inr ⟨v, _, m', a, w', v', .inRegion ops (i :: rest) :: k, hR, rfl, hr.ahead hev hhk, hv, ?_⟩
        rw [← Frame.raise_atR]
        exact .head hstart (Steps.trans hcomes (.one (step_leave_panicked hleave)))
  | yld l args =>
    obtain ⟨bl, cargs, hrun, hargs, hlive⟩ := hok
    rw [hnd (by simp) (by simp)] at hg
    obtain ⟨⟨ob, hob, htag⟩, hyld⟩ := h
    have hbl : m.getD l none = some bl := by
      rcases hlive with hdead | hbl
      · have hdead' : A.h[l]? = some .dead := hdead
        rw [hob] at hdead'; cases hdead'; cases htag
      · exact hbl
    obtain ⟨f, tmps, assign, body, hy, hround⟩ := hyld M0 m w cargs bl hr.hok hargs hbl
    have hrun' : (execOp a.eval o).run P w = .ok (.round bl f tmps assign body) w := hrun.trans hy
    obtain ⟨e, w', ⟨re, h', m', hR, hev, hhk, hend⟩, hsteps⟩ := hround (b.atR a (.inRegion ops (i :: rest) :: k)) (csAt A.rc cs0)
    have hstart : step P (lone (b.atR a (.inRegion ops (i :: rest) :: k)) (csAt A.rc cs0) w) =
        .next (lone (Frame.round bl f tmps assign body .normal) (b.atR a (.inRegion ops (i :: rest) :: k) :: csAt A.rc cs0) w) :=
      step_lone_go (by rw [hg]; simp [stepG.apply, hrun', Frame.atR])
    cases e with
    | outgrown => exact hend.elim
    | returned v' =>
      cases re with
      | panic v => exact hend.elim
      | ret v =>
        have hr' := (hr.ahead hev hhk).put (dst := o.dst) (dst_lt hd) hend
        rw [← put_heap] at hr'
        refine .inl ⟨_, m', _, w', hR, put_n _ _ _ _, hr', ?_⟩
        rw [put_rc, ← hfin]
        exact .head hstart hsteps
    | panicked ch =>
      cases re with
      | ret v => exact hend.elim
      | panic v =>
        obtain ⟨v', rfl, hv⟩ := hend
        refine .inr ⟨v, _, m', a, w', v', .inRegion ops (i :: rest) :: k, hR, rfl, hr.ahead hev hhk, hv, ?_⟩
        rw [← Frame.raise_atR]
        exact .head hstart hsteps
  | dfr d =>
    have hnr : A.rc ≠ .rnd := by intro hc; simp only [orK, hc, dfrK] at h
    have h' : K ({ A with df := d :: A.df }.put o.dst (.p (.tuple [])) A.h) := by
      simp only [orK] at h
      cases hc : A.rc <;> rw [hc] at h <;> first | exact h | exact absurd hc hnr
    rw [hr.semAt (.inr hnr)] at hg
    cases d with
    | collected id => exact hok.elim
    | fn g args =>
      obtain ⟨fv, cap, dargs, cargs, hrun, hinv, hargs⟩ := hok
      have hr1 : Rel P M0 S0 b cs0 m { A with df := .fn g args :: A.df } { a with defers := { target := .fn fv cap, args := dargs } :: a.defers } w :=
        ⟨hr.size, hr.tmps, hr.hok, hr.ev, hr.le, ⟨⟨fv, cap, dargs, cargs, rfl, hinv, hargs⟩, hr.df⟩, hr.rc⟩
      refine .inl ⟨_, m, _, w, h', put_n _ _ _ _, hr1.put (dst := o.dst) (dst_lt hd) (undef_rep _ _), ?_⟩
      rw [put_rc, ← hfin]
      exact .one (step_lone_go (by
        rw [hg]
        have hrun' : (execOp a.eval o).run P w = _ := hrun
        simp [stepG.apply, hrun', Frame.atR]))
  | recover =>
    rw [hnd (by simp) (by simp)] at hg
    have hrun : (execOp a.eval o).run P w = .ok .recover w := hok
    have hnil : Rep M0 ⟨m, A.h, w⟩ .nilIface (.p .niliface) := rep0_of_pv .niliface
    have hkd := rc_kind hr
    have hrc := hr.rc
    -- nothing to take up
    have quiet : b.roundOf = none → b.kind = .deferred → recoverD (csAt A.rc cs0) = none → K (A.put o.dst (.p .niliface) A.h) →
        Steps1 P M0 S0 b cs0 A.n (lone (b.atR a (.inRegion ops (i :: rest) :: k)) (csAt A.rc cs0) w) (.inRegion ops rest :: k) K Q := by
      intro h1 h2 h3 hK
      refine .inl ⟨_, m, _, w, hK, put_n _ _ _ _, hr.put (dst := o.dst) (dst_lt hd) hnil, ?_⟩
      rw [put_rc, ← hfin]
      refine .one (step_lone_go ?_)
      have htr := tryRecover_deferred (fr := b.atR a (.inRegion ops (i :: rest) :: k)) h2 (csAt A.rc cs0)
      rw [h3] at htr
      have hro : (b.atR a (.inRegion ops (i :: rest) :: k)).roundOf = none := h1
      rw [hg]
      simp [stepG.apply, hrun, htr, hro]
    simp only [orK] at h
    cases hc : A.rc with
    | no => rw [hc] at h; exact h.elim
    | rnd => rw [hc] at h; exact h.elim
    | none =>
      rw [hc] at h hrc
      rw [hc] at quiet
      exact quiet hrc.1 hrc.2.1 hrc.2.2 h
    | got v =>
      rw [hc] at h hrc
      rw [hc] at quiet
      obtain ⟨h1, h2, v', cs1, h3⟩ := hrc
      refine quiet h1 h2 ?_ h
      simp only [csAt, h3]
      exact recoverD_recovered h3
    | pend v =>
      rw [hc] at h hrc
      obtain ⟨h1, h2, v', cs1, h3, h4⟩ := hrc
      have hr1 : Rel P M0 S0 b cs0 m { A with rc := .got v } a w := ⟨hr.size, hr.tmps, hr.hok, hr.ev, hr.le, hr.df, ⟨h1, h2, v', cs1, h3⟩⟩
      refine .inl ⟨_, m, _, w, h, put_n _ _ _ _, hr1.put (dst := o.dst) (dst_lt hd) (rep0_of_pv h4), ?_⟩
      rw [put_rc, ← hfin]
      refine .one (step_lone_go ?_)
      have htr := tryRecover_deferred (fr := b.atR a (.inRegion ops (i :: rest) :: k)) h2 cs0
      rw [h3] at htr
      have hro : (b.atR a (.inRegion ops (i :: rest) :: k)).roundOf = none := h1
      rw [hc] at hg
      simp only [csAt] at hg
      rw [show csAt (Rc.pend v) cs0 = cs0 from rfl, hg]
      simp [stepG.apply, hrun, htr, hro, csAt, h3]
  | panic v =>
    obtain ⟨v', hrun, hv⟩ := hok
    rw [hnd (by simp) (by simp)] at hg
    refine .inr ⟨v, A, m, a, w, v', .inRegion ops (i :: rest) :: k, h, rfl, hr, hv, ?_⟩
    rw [← Frame.raise_atR]
    exact .one (step_lone_go (by rw [hg]; simp [stepG.apply, hrun]))
  | stuck => exact h.elim

end Abs
end Go.Proofs.YtdellinghbppgaaGreatDoor

namespace Go.Proofs.YtdellinghbppgaaGreatDoor
namespace Abs
variable {P : Program} {M0 : Nat → Prop} {S0 : Mem} {b : Frame} {cs0 : List Frame} {m : List (Option Nat)} {A : AAct} {a : Act} {w : World} {H : Hints}

/-- where the machine has come -/
def Arr (P : Program) (M : Nat → Prop) (mc : Machine) (b : Frame) (k : List Item) (cs : List Frame) (a : Act) (w : World) : Ex → Prop
  | .normal => Steps P mc (lone (b.atR a k) cs w)
  | .exit id => (∀ k', exitTo id k = some k' → Steps P mc (lone (b.atR a k') cs w)) ∧
      (exitTo id k = none → ∃ k₁, exitTo id k₁ = none ∧ Steps P mc (lone (b.atR a (.code (.exit id) :: k₁)) cs w))
  | .ret => ∃ k₁, Steps P mc (lone (b.atR a (.code .ret :: k₁)) cs w)
  | .panic v => ∃ v' todo, RepP M w v' v ∧ Steps P mc (lone { b.atR a todo with mode := .panicking [{ v := v', recovered := false }] } cs w)

def Sim (P : Program) (M0 : Nat → Prop) (S0 : Mem) (b : Frame) (cs0 : List Frame) (n : Nat) (mc : Machine) (k : List Item) (Q : Ex → AAct → Prop) : Prop :=
  ∃ e A' m' a' w', Q e A' ∧ A'.n = n ∧ Rel P M0 S0 b cs0 m' A' a' w' ∧ Arr P (Avoid M0 m') mc b k (csAt A'.rc cs0) a' w' e

theorem Arr.of_steps {M : Nat → Prop} {mc mc' : Machine} {k : List Item} {cs : List Frame} {e : Ex} (h : Steps P mc mc') (h' : Arr P M mc' b k cs a w e) : Arr P M mc b k cs a w e := by
  cases e with
  | normal => exact Steps.trans h h'
  | exit id => exact ⟨fun k' hk => h.trans (h'.1 k' hk), fun hk => let ⟨k₁, h1, h2⟩ := h'.2 hk; ⟨k₁, h1, h.trans h2⟩⟩
  | ret => exact let ⟨k₁, h1⟩ := h'; ⟨k₁, h.trans h1⟩
  | panic v => exact let ⟨v', todo, h1, h2⟩ := h'; ⟨v', todo, h1, h.trans h2⟩
theorem Sim.of_steps {n : Nat} {mc mc' : Machine} {k : List Item} {Q : Ex → AAct → Prop} (h : Steps P mc mc') (h' : Sim P M0 S0 b cs0 n mc' k Q) : Sim P M0 S0 b cs0 n mc k Q :=
  let ⟨e, A', m', a', w', h1, h2, h3, h4⟩ := h'; ⟨e, A', m', a', w', h1, h2, h3, h4.of_steps h⟩
/-- an item that catches nothing -/
theorem Arr.pass {M : Nat → Prop} {mc : Machine} {x : Item} {k : List Item} {cs : List Frame} {e : Ex} (hx : x.plain = true) (he : e ≠ .normal) (h : Arr P M mc b (x :: k) cs a w e) : Arr P M mc b k cs a w e := by
  have hxt : ∀ id, exitTo id (x :: k) = exitTo id k := by intro id; cases x <;> simp_all [exitTo, Item.plain]
  cases e with
  | normal => exact absurd rfl he
  | exit id => exact ⟨fun k' hk => h.1 k' (by rw [hxt]; exact hk), fun hk => h.2 (by rw [hxt]; exact hk)⟩
  | ret => exact h
  | panic v => exact h

theorem wanted_false {ops : Array Oper} {o : Oper} {i : Nat} (ho : ops[i]? = some o) (hw : Region.wanted o (yielded ops a.tmps) = false) :
    ((ops[i]?).map (Region.wanted · (yielded ops a.tmps))).getD false = false := by simp [ho, hw]

/-- whether an operation is wanted -/
theorem Rel.wanted (h : Rel P M0 S0 b cs0 m A a w) {ops : Array Oper} {o : Oper} {t : Bool} (hw : aWanted ops A o = some t) : Region.wanted o (yielded ops a.tmps) = t := by
  unfold aWanted at hw
  unfold Region.wanted
  cases hg : o.guard with
  | none => rw [hg] at hw; cases hw; rfl
  | some g =>
    obtain ⟨j, want⟩ := g
    rw [hg] at hw
    simp only at hw ⊢
    unfold yielded
    unfold guardAt at hw
    cases hd : (ops[j]?).bind (·.dst) with
    | none => rw [hd] at hw; cases hw; rfl
    | some d =>
      rw [hd] at hw
      simp only at hw
      have ht := h.tmps d
      simp only [Option.bind_some]
      split at hw
      · rename_i bb hbb
        rw [hbb] at ht
        have := bool_rep ht
        cases hw
        rw [Array.getD_eq_getD_getElem?] at this
        cases hq : a.tmps[d]? with
        | none => rw [hq] at this; cases this
        | some z =>
          rw [hq] at this
          simp only [Option.getD_some] at this
          subst this
          cases bb <;> cases want <;> rfl
      · rename_i l hbb
        rw [hbb] at ht
        have h1 : RepP (Avoid M0 m) w (a.tmps.getD d undef) (.tuple l) := ht
        cases hw
        rw [Array.getD_eq_getD_getElem?] at h1
        cases hq : a.tmps[d]? with
        | none => rfl
        | some z =>
          rw [hq] at h1
          simp only [Option.getD_some] at h1
          cases h1
          rfl
      · cases hw

theorem ops_sim {ops : Array Oper} {Q : Ex → AAct → Prop} {n : Nat} {k : List Item} (hd : ops.toList.all (dstOk n) = true) : ∀ (l : List Oper) (i : Nat), ops.toList.drop i = l →
    ∀ {m A a w}, Rel P M0 S0 b cs0 m A a w → A.n = n → wpOps P H ops Q l A →
      Sim P M0 S0 b cs0 n (lone (b.atR a (.inRegion ops ((List.range ops.size).drop i) :: k)) (csAt A.rc cs0) w) k Q := by
  intro l
  induction l with
  | nil =>
    intro i hi m A a w hr hn h
    have hlen : ops.size ≤ i := by
      have := congrArg List.length hi
      simp at this
      omega
    have : (List.range ops.size).drop i = [] := by simp [hlen]
    rw [this]
    exact ⟨.normal, A, m, a, w, h, hn, hr, .one stepR_region_end⟩
  | cons o rest ih =>
    intro i hi m A a w hr hn h
    have hlt : i < ops.size := by
      have := congrArg List.length hi
      simp at this
      omega
    have hoi : ops[i]? = some o := by
      have h1 : ops.toList[i]? = some o := by
        have := List.getElem?_drop (xs := ops.toList) (i := i) (j := 0)
        rw [hi] at this
        simpa using this.symm
      simpa using h1
    have hdrop : (List.range ops.size).drop i = i :: (List.range ops.size).drop (i + 1) := by
      rw [List.drop_eq_getElem_cons (by simpa using hlt)]
      simp
    have hnext : ops.toList.drop (i + 1) = rest := by
      have := congrArg List.tail hi
      simpa [List.tail_drop] using this
    have hdo : dstOk A.n o = true := by
      rw [hn]
      exact List.all_eq_true.1 hd o (by have := List.mem_of_getElem? (l := ops.toList) (i := i) (a := o) (by simpa using hoi); exact this)
    rw [hdrop]
    unfold wpOps at h
    cases hw : aWanted ops A o with
    | none => rw [hw] at h; exact h.elim
    | some t =>
      rw [hw] at h
      have hwm := hr.wanted hw
      cases t with
      | true =>
        have h1 := h.1 rfl
        rcases op_step (i := i) (rest := (List.range ops.size).drop (i + 1)) (k := k) hoi hdo hwm hr h1 with ⟨A', m', a', w', hK, hn', hr', hs⟩ | ⟨v, A', m', a', w', v', todo, hQ, hn', hr', hv, hs⟩
        · exact (ih (i + 1) hnext hr' (hn'.trans hn) hK).of_steps hs
        · exact ⟨.panic v, A', m', a', w', hQ, hn'.trans hn, hr', v', todo, hv, hs⟩
      | false =>
        have h1 := h.2 rfl
        have hs := stepR_op_skip (P := P) (b := b) (k := k) (cs := csAt A.rc cs0) (w := w) (rest := (List.range ops.size).drop (i + 1)) (wanted_false hoi hwm)
        simp only [hoi, Option.bind_some] at hs
        have hr' := hr.put (dst := o.dst) (dst_lt hdo) (undef_rep _ _)
        have := ih (i + 1) hnext hr' ((put_n _ _ _ _).trans hn) h1
        rw [put_rc] at this
        exact this.of_steps (.one hs)

/-- what is known of regions of any order -/
def DrawLaw (P : Program) : Prop :=
  ∀ {M0 : Nat → Prop} {S0 : Mem} {b : Frame} {cs0 : List Frame} {m : List (Option Nat)} {A : AAct} {a : Act} {w : World} {H : Hints} {ops : Array Oper} {Q : Ex → AAct → Prop} {n id : Nat} {k : List Item},
    ops.toList.all (dstOk n) = true → drawOk H ops = true → Rel P M0 S0 b cs0 m A a w → A.n = n → wpDraw P H ops Q ops.toList (drawHs H ops.toList A) (drawA H ops.toList A) →
      Sim P M0 S0 b cs0 n (lone (b.atR a (.code (.region id ops true) :: k)) (csAt A.rc cs0) w) k Q

theorem set_dead_ok {S : Mem} (hS : HOk P M0 S) (id : Nat) {w' : World} (hw : Fr S.m S.w w') (hb : ∀ x bl, x ≠ id → S.m.getD x none = some bl → w'.heap[bl]? = S.w.heap[bl]?) :
    HOk P M0 ⟨S.m, S.h.set id .dead, w'⟩ ∧ Ev S.h.length S ⟨S.m, S.h.set id .dead, w'⟩ := by
  have hev : Ev S.h.length S ⟨S.m, S.h.set id .dead, w'⟩ :=
    { fr := hw
      sub := fun bl h => .inl h
      obj := fun x o hx ho => by
        by_cases hxi : x = id
        · subst hxi
          exact ⟨.dead, by simp [hx], .inl rfl⟩
        · exact ⟨o, by simp [List.getElem?_set_ne (Ne.symm hxi), ho], ObjEv.refl _ _⟩ }
  refine ⟨?_, hev⟩
  exact
    { len := by simpa using hS.len
      lt := fun bl h => Nat.lt_of_lt_of_le (hS.lt bl h) hw.size
      m0 := fun bl h => ⟨Nat.lt_of_lt_of_le (hS.m0 bl h).1 hw.size, (hS.m0 bl h).2⟩
      inj := hS.inj
      obj := fun x o ho => by
        by_cases hxi : x = id
        · subst hxi
          have ho' : (S.h.set x .dead)[x]? = some o := ho
          have hx : x < S.h.length := by
            have := (List.getElem?_eq_some_iff.1 ho').1
            simpa using this
          rw [List.getElem?_set_self hx] at ho'
          cases ho'
          exact trivial
        · have ho' : (S.h.set id .dead)[x]? = some o := ho
          rw [List.getElem?_set_ne (Ne.symm hxi)] at ho'
          exact (hS.obj x o ho').keep hev fun bl hbl => hb x bl hxi hbl
      gl := hev.glob hS.gl }

end Abs
end Go.Proofs.YtdellinghbppgaaGreatDoor

namespace Go.Proofs.YtdellinghbppgaaGreatDoor
namespace Abs
variable {P : Program} {M0 : Nat → Prop}

/-! an empty row in place of a nil slice -/
def Mem.nil (S : Mem) (sz : Nat) : Mem := ⟨S.m ++ [none], S.h ++ [.row sz []], S.w⟩
theorem Ev.nil {S : Mem} (hS : HOk P M0 S) (sz : Nat) : Ev S.h.length S (S.nil sz) where
  fr := Fr.refl _ _
  sub := fun b h => by
    have h' : some b ∈ S.m ++ [none] := h
    simp at h'
    exact .inl h'
  obj := fun id o hid ho => by
    refine ⟨o, ?_, ?_⟩
    · show (S.h ++ [AObj.row sz []])[id]? = _
      rw [List.getElem?_append_left hid]; exact ho
    · have : (S.nil sz).m.getD id none = S.m.getD id none := by
        show (S.m ++ [none]).getD id none = _
        have := hS.len
        simp [List.getElem?_append_left (show id < S.m.length by omega)]
      rw [this]
      exact ObjEv.refl _ _
theorem hok_nil_row {S : Mem} (hS : HOk P M0 S) (sz : Nat) : HOk P M0 (S.nil sz) where
  gl := (Ev.nil hS sz).glob hS.gl
  len := by simp [Mem.nil, hS.len]
  lt := fun b h => by
    have h' : some b ∈ S.m ++ [none] := h
    simp at h'
    exact hS.lt b h'
  m0 := fun b h => ⟨(hS.m0 b h).1, fun hn => by
    have h' : some b ∈ S.m ++ [none] := hn
    simp at h'
    exact (hS.m0 b h).2 h'⟩
  inj := fun i j b hi hj => by
    have key : ∀ k : Nat, (S.m ++ [none])[k]? = some (some b) → S.m[k]? = some (some b) := by
      intro k hk
      rcases Nat.lt_or_ge k S.m.length with h | h
      · rwa [List.getElem?_append_left h] at hk
      · rw [List.getElem?_append_right h] at hk
        cases hx : k - S.m.length with
        | zero => rw [hx] at hk; simp at hk
        | succ x => rw [hx] at hk; simp at hk
    exact hS.inj i j b (key i hi) (key j hj)
  obj := fun id o hid => by
    have hid' : (S.h ++ [AObj.row sz []])[id]? = some o := hid
    rcases Nat.lt_or_ge id S.h.length with h | h
    · rw [List.getElem?_append_left h] at hid'
      have hm : (S.nil sz).m.getD id none = S.m.getD id none := by
        show (S.m ++ [none]).getD id none = _
        have := hS.len
        simp [List.getElem?_append_left (show id < S.m.length by omega)]
      rw [hm]
      exact (hS.obj id o hid').keep (Ev.nil hS sz) fun _ _ => rfl
    · rw [List.getElem?_append_right h] at hid'
      cases hx : id - S.h.length with
      | succ x => rw [hx] at hid'; simp at hid'
      | zero =>
        rw [hx] at hid'
        simp at hid'
        subst hid'
        have hm : (S.nil sz).m.getD id none = none := by
          show (S.m ++ [none]).getD id none = _
          have := hS.len
          rw [List.getD_eq_getElem?_getD, List.getElem?_append_right (by omega), show id - S.m.length = 0 by omega]
          rfl
        rw [hm]
        exact .inl ⟨rfl, rfl⟩

/-- places are kept -/
theorem Rel.resv {S0 : Mem} {b : Frame} {cs0 : List Frame} {a : Act} {w : World} : ∀ (l : List Nat) {m : List (Option Nat)} {A : AAct}, Rel P M0 S0 b cs0 m A a w → ∃ m', Rel P M0 S0 b cs0 m' { A with h := A.h ++ l.map fun sz => .row sz [] } a w
  | [], m, A, hr => ⟨m, by simpa using hr⟩
  | sz :: l, m, A, hr => by
    have hk := hok_nil_row (S := ⟨m, A.h, w⟩) hr.hok sz
    have hev := Ev.nil (S := ⟨m, A.h, w⟩) hr.hok sz
    have hr1 := hr.ahead (m' := m ++ [none]) (h' := A.h ++ [.row sz []]) (w' := w) hev hk
    obtain ⟨m', h⟩ := Rel.resv l hr1
    refine ⟨m', ?_⟩
    simpa using h

theorem slotVar_ok {S : Mem} (hS : HOk P M0 S) {id sz : Nat} (hid : S.h[id]? = some (.row sz [])) {T : TypeId} {x : AV} {v : Value} {cs : List AV} (hx : Rep M0 S v x) (hc : x.cells = some cs) (hl : cs.length = sz) :
    ValOk P M0 S (do pure (.pointer (some (← newVar T v)))) (.val (.ptr id 1 0 0) (S.h.set id (.row sz [x]))) := by
  obtain ⟨hn, hr⟩ := rep_cells hx hc
  have hlt := (List.getElem?_eq_some_iff.1 hid).1
  have e := Ev.regrow S.h.length (ob := .cells v.cells T) (xs' := [x]) hid (by simp)
  have hel : ElemsOk M0 (S.regrow id (.row sz [x]) (.cells v.cells T)) sz v.cells [x] := by
    intro i y hy
    cases i with
    | zero =>
      simp at hy; subst hy
      exact ⟨cs, hc, hl, fun j c hj => ⟨(hr j c hj).1, by simpa using e.keepS (hr j c hj).2⟩⟩
    | succ i => simp at hy
  have hel0 : ElemsOk M0 S sz v.cells [x] := by
    intro i y hy
    cases i with
    | zero =>
      simp at hy; subst hy
      exact ⟨cs, hc, hl, fun j c hj => ⟨(hr j c hj).1, by simpa using (hr j c hj).2⟩⟩
    | succ i => simp at hy
  have hk := HOk.regrow (T := T) hS hid (xs' := [x]) (by simp) (by simp [hn, hl]) hel0
  refine ⟨S.regrow id (.row sz [x]) (.cells v.cells T), .pointer (some ⟨S.w.heap.size, 0, none⟩), rfl, ?_, e, hk, ⟨_, rfl⟩, .inr ⟨sz, [x], ?_, by simp, fun _ => ⟨S.w.heap.size, ?_, by simp⟩⟩⟩
  · simp [newVar, newRow, Mem.regrow]
  · simp [Mem.regrow, hlt]
  · have := hS.len
    simp [Mem.regrow, List.getD_eq_getElem?_getD, List.getElem?_set_self (show id < S.m.length by omega)]

theorem slot_ok {S : Mem} (hS : HOk P M0 S) {id sz : Nat} (hid : S.h[id]? = some (.row sz [])) {o : Oper} {e : Operand → AV} {ρ : Operand → Value} (he : ∀ x, Rep M0 S (ρ x) (e x)) {z : AV} (hz : slotVal P e o.op = some z)
    (hl : z.cells.map (·.length) = some sz) : OpOk P M0 S (execOp ρ o) (.val (.ptr id 1 0 0) (S.h.set id (.row sz [z]))) := by
  simp only [Option.map_eq_some_iff] at hl
  obtain ⟨cs, hc, hl⟩ := hl
  unfold slotVal at hz
  split at hz
  · rename_i T hop
    simp only [Option.map_eq_some_iff] at hz
    obtain ⟨q, hq, rfl⟩ := hz
    unfold execOp
    rw [hop]
    dsimp only
    obtain ⟨v, hv, hcz⟩ := zeroT_some hq S.w
    have hrep : Rep M0 S v (.p q) := constPV_rep hcz
    obtain ⟨S', v', h1, h2, h3⟩ := slotVar_ok (P := P) hS hid (T := T) hrep hc hl
    refine ValOk.op (r := .val _ _) ⟨S', v', h1, ?_, h3⟩
    simp only [Sem.run_bind] at h2
    unfold Instr.alloc
    simp only [Sem.run_bind, hv, Result.andThen_ok]
    exact h2
  · rename_i T x hop
    cases hz
    unfold execOp
    rw [hop]
    dsimp only
    exact (slotVar_ok hS hid (he x) hc hl).op
  · cases hz

/-- an operation with one outcome is carried out -/
theorem op_step_val {S0 : Mem} {b : Frame} {cs0 : List Frame} {m : List (Option Nat)} {A : AAct} {a : Act} {w : World} {o : Oper} {i : Nat} {rest : List Nat} {ops : Array Oper} {k : List Item} {v : AV} {h' : Heap}
    (ho : ops[i]? = some o) (hd : dstOk A.n o = true) (hw : Region.wanted o (yielded ops a.tmps) = true) (hr : Rel P M0 S0 b cs0 m A a w) (hnd : ∀ c, o.op ≠ .defer c) (hok : OpOk P M0 ⟨m, A.h, w⟩ (execOp a.eval o) (.val v h')) :
    ∃ m' a' w', Rel P M0 S0 b cs0 m' (A.put o.dst v h') a' w' ∧ Steps P (lone (b.atR a (.inRegion ops (i :: rest) :: k)) (csAt A.rc cs0) w) (lone (b.atR a' (.inRegion ops rest :: k)) (csAt A.rc cs0) w') := by
  have hfin : ∀ (a' : Act) v, (b.atR a' (.inRegion ops (i :: rest) :: k)).finish v = b.atR (a'.put o.dst v) (.inRegion ops rest :: k) := by
    intro a' v; rw [Frame.finish_atR, ho]; rfl
  have hg := stepGR_op (P := P) (b := b) (k := k) (cs := csAt A.rc cs0) (w := w) (rest := rest) ho hw
  obtain ⟨⟨m', h1, w'⟩, v', rfl, hrun, hev, hhk, hrep⟩ := hok
  rw [hr.semAt (.inl hnd)] at hg
  have hr' := (hr.ahead hev hhk).put (dst := o.dst) (dst_lt hd) hrep
  rw [← put_heap] at hr'
  refine ⟨m', _, w', hr', ?_⟩
  rw [← hfin]
  exact .one (step_lone_go (by rw [hg]; simp only at hrun; simp [stepG.apply, hrun]))

end Abs
end Go.Proofs.YtdellinghbppgaaGreatDoor
